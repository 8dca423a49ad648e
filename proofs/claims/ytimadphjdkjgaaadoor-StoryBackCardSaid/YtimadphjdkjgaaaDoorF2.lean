import Derived.Test.YtimadphjdkjgaaaDoorTys
import Derived.Test.YtimadphjdkjgaaaDoorProg
import Derived.Laws.Externs
import Derived.Lib.Bytealg
import Derived.Test.YtimadphjdkjgaaaDoorF0
import Derived.Test.YtimadphjdkjgaaaDoorF1
/- By a program of this session (AEV): functions of the program as plain functions, and that the machine does what they say. -/
namespace Go.Proofs.YtimadphjdkjgaaaDoor.Aev
set_option linter.unusedVariables false
set_option linter.unusedSimpArgs false
set_option maxRecDepth 100000
set_option maxHeartbeats 4000000
open Go Go.Proofs.Tryd
namespace words_Quote
def e (r : ByteArray) : Res := ⟨.v (.one (.d .str r)), []⟩
abbrev T (δ : Type) : Type := ByteArray → Option δ
abbrev A {δ : Type} (g : T δ) : Arm δ := ⟨[.d .str], [], fun x y => g x.1⟩
abbrev G : Type := T ByteArray
def ct (g : G) : Ct := mkCt 0 [] [A g] e
abbrev S0 (δ : Type) : Type := (List Int) → Int → Int → (List Int) → Option δ
abbrev A_0 {δ : Type} (s : S0 δ) : Arm δ := ⟨[.k (.own 0), .d (.sl (.int .u8)), .d (.int .i64), .d (.int .i64)], [.own (.int .u8) false], fun x y => s x.2.1 x.2.2.1 x.2.2.2.1 y.1⟩
abbrev S1 (δ : Type) : Type := Int → (List Int) → Int → Int → Bool → (List Int) → Option δ
abbrev A_1 {δ : Type} (s : S1 δ) : Arm δ := ⟨[.k (.own 0), .d (.int .u8), .d (.sl (.int .u8)), .d (.int .i64), .d (.int .i64), .d .bool], [.own (.int .u8) false], fun x y => s x.2.1 x.2.2.1 x.2.2.2.1 x.2.2.2.2.1 x.2.2.2.2.2.1 y.1⟩
abbrev S2 (δ : Type) : Type := Int → (List Int) → Int → Int → Bool → (List Int) → Option δ
abbrev A_2 {δ : Type} (s : S2 δ) : Arm δ := ⟨[.k (.own 0), .d (.int .u8), .d (.sl (.int .u8)), .d (.int .i64), .d (.int .i64), .d .bool], [.own (.int .u8) false], fun x y => s x.2.1 x.2.2.1 x.2.2.2.1 x.2.2.2.2.1 x.2.2.2.2.2.1 y.1⟩
abbrev S3 (δ : Type) : Type := (List Int) → Int → Int → (List Int) → Option δ
abbrev A_3 {δ : Type} (s : S3 δ) : Arm δ := ⟨[.k (.own 0), .d (.sl (.int .u8)), .d (.int .i64), .d (.int .i64)], [.own (.int .u8) false], fun x y => s x.2.1 x.2.2.1 x.2.2.2.1 y.1⟩
def sg0 (s : S0 ByteArray) : Seg := mkSg [4, 1, 0, 1, 1] [.own 3 (.int .u8)] [3, 8, 9, 10] [A_0 s] e
def sg1 (s : S1 ByteArray) : Seg := mkSg [1, 4, 1, 4, 0, 1, 1, 5, 4, 1, 0, 1, 1] [] [3, 5, 8, 9, 10, 18] [A_1 s] e
def sg2 (s : S2 ByteArray) : Seg := mkSg [1, 3, 1, 4, 1, 4, 0, 1, 1, 5, 4, 1, 0, 1, 1] [] [3, 5, 8, 9, 10, 27] [A_2 s] e
def sg3 (s : S3 ByteArray) : Seg := mkSg [1, 1, 1, 5, 4, 1, 0, 1, 1] [] [3, 8, 9, 10] [A_3 s] e
section
variable {β : Type} (s0 : S0 ByteArray) (s1 : S1 ByteArray) (s2 : S2 ByteArray) (s3 : S3 ByteArray)
noncomputable abbrev env : FEnv := mkEnv prog f63 [] 0 [] [sg0 s0, sg1 s1, sg2 s2, sg3 s3]
def c (ret : ByteArray → Option β) (a0 : ByteArray) : Option β := ((s0 (List.map (fun b => ((UInt8.toNat b) : Int)) (Array.toList (ByteArray.data a0))) ((List.length (List.map (fun b => ((UInt8.toNat b) : Int)) (Array.toList (ByteArray.data a0)))) : Int) (0 : Int) [(34 : Int)]).bind ret)
def s0c (ret : ByteArray → Option β) (x0 : List Int) (x1 x2 : Int) (x3 : List Int) : Option β := (bif (decide (x2 < x1)) then (bif ((decide ((0 : Int) ≤ x2)) && (decide (x2 < (x0.length : Int)))) then (bif ((elem (Ty.int IntKind.u8) x0 x2) == (34 : Int)) then ((s1 (elem (Ty.int IntKind.u8) x0 x2) x0 x1 x2 ((elem (Ty.int IntKind.u8) x0 x2) == (34 : Int)) x3).bind ret) else ((s1 (elem (Ty.int IntKind.u8) x0 x2) x0 x1 x2 ((elem (Ty.int IntKind.u8) x0 x2) == (92 : Int)) x3).bind ret)) else none) else (bif (decide (((x3.length + (1 : Nat)) * (1 : Nat)) ≤ (35184372088832 : Nat))) then (ret ((ByteArray.mk (List.toArray (List.map (fun n => (UInt8.ofNat (Int.toNat n))) (x3 ++ [(34 : Int)])))))) else none))
def s1c (ret : ByteArray → Option β) (x0 : Int) (x1 : List Int) (x2 x3 : Int) (x4 : Bool) (x5 : List Int) : Option β := (bif x4 then (bif (decide (((x5.length + (2 : Nat)) * (1 : Nat)) ≤ (35184372088832 : Nat))) then ((s3 x1 x2 x3 (x5 ++ [(92 : Int), x0])).bind ret) else none) else (bif (decide (x0 < (32 : Int))) then ((s2 x0 x1 x2 x3 (decide (x0 < (32 : Int))) x5).bind ret) else ((s2 x0 x1 x2 x3 (decide (x0 > (126 : Int))) x5).bind ret)))
def s2c (ret : ByteArray → Option β) (x0 : Int) (x1 : List Int) (x2 x3 : Int) (x4 : Bool) (x5 : List Int) : Option β := (bif x4 then (bif ((decide ((0 : Int) ≤ (Int.fdiv x0 (16 : Int)))) && (decide ((Int.fdiv x0 (16 : Int)) < (16 : Int)))) then (bif (true && (decide ((IntKind.wrap .u8 ((BitVec.toNat ((BitVec.ofInt (8 : Nat) x0) &&& (BitVec.ofInt (8 : Nat) (15 : Int)))) : Int)) < (16 : Int)))) then (bif (decide (((x5.length + (4 : Nat)) * (1 : Nat)) ≤ (35184372088832 : Nat))) then ((s3 x1 x2 x3 (x5 ++ [(92 : Int), (120 : Int), (bt (ByteArray.mk (List.toArray [48, 49, 50, 51, 52, 53, 54, 55, 56, 57, 97, 98, 99, 100, 101, 102])) (Int.fdiv x0 (16 : Int))), (bt (ByteArray.mk (List.toArray [48, 49, 50, 51, 52, 53, 54, 55, 56, 57, 97, 98, 99, 100, 101, 102])) (IntKind.wrap .u8 ((BitVec.toNat ((BitVec.ofInt (8 : Nat) x0) &&& (BitVec.ofInt (8 : Nat) (15 : Int)))) : Int)))])).bind ret) else none) else none) else none) else (bif (decide (((x5.length + (1 : Nat)) * (1 : Nat)) ≤ (35184372088832 : Nat))) then ((s3 x1 x2 x3 (x5 ++ [x0])).bind ret) else none))
def s3c (ret : ByteArray → Option β) (x0 : List Int) (x1 x2 : Int) (x3 : List Int) : Option β := ((s0 x0 x1 (IntKind.wrap .i64 (x2 + (1 : Int))) x3).bind ret)
variable {s0} {s1} {s2} {s3}
theorem ev : EvA (env s0 s1 s2 s3) [] [0] e (A (c s0 some)) := fun x y => Eq.trans (b := (A (c s0 fun r => some (e r))).G x y) (by kernel_rfl) (by simp only [A, c, bo, so, oa, os, on, ofs])
theorem s0_ev : EvA (env s0 s1 s2 s3) [4, 1, 0, 1, 1] [3, 8, 9, 10] e (A_0 (s0c s1 some)) := fun x y => Eq.trans (b := (A_0 (s0c s1 fun r => some (e r))).G x y) (by kernel_rfl) (by simp only [A_0, s0c, bo, so, oa, os, on, ofs])
theorem s1_ev : EvA (env s0 s1 s2 s3) [1, 4, 1, 4, 0, 1, 1, 5, 4, 1, 0, 1, 1] [3, 5, 8, 9, 10, 18] e (A_1 (s1c s2 s3 some)) := fun x y => Eq.trans (b := (A_1 (s1c s2 s3 fun r => some (e r))).G x y) (by kernel_rfl) (by simp only [A_1, s1c, bo, so, oa, os, on, ofs])
theorem s2_ev : EvA (env s0 s1 s2 s3) [1, 3, 1, 4, 1, 4, 0, 1, 1, 5, 4, 1, 0, 1, 1] [3, 5, 8, 9, 10, 27] e (A_2 (s2c s3 some)) := fun x y => Eq.trans (b := (A_2 (s2c s3 fun r => some (e r))).G x y) (by kernel_rfl) (by simp only [A_2, s2c, bo, so, oa, os, on, ofs])
theorem s3_ev : EvA (env s0 s1 s2 s3) [1, 1, 1, 5, 4, 1, 0, 1, 1] [3, 8, 9, 10] e (A_3 (s3c s0 some)) := fun x y => Eq.trans (b := (A_3 (s3c s0 fun r => some (e r))).G x y) (by kernel_rfl) (by simp only [A_3, s3c, bo, so, oa, os, on, ofs])
end
mutual
def s0 : Nat → S0 ByteArray
 | 0, _, _, _, _ => none
 | k + 1, x0, x1, x2, x3 => s0c (s1 k) some x0 x1 x2 x3
def s1 : Nat → S1 ByteArray
 | 0, _, _, _, _, _, _ => none
 | k + 1, x0, x1, x2, x3, x4, x5 => s1c (s2 k) (s3 k) some x0 x1 x2 x3 x4 x5
def s2 : Nat → S2 ByteArray
 | 0, _, _, _, _, _, _ => none
 | k + 1, x0, x1, x2, x3, x4, x5 => s2c (s3 k) some x0 x1 x2 x3 x4 x5
def s3 : Nat → S3 ByteArray
 | 0, _, _, _, _ => none
 | k + 1, x0, x1, x2, x3 => s3c (s0 k) some x0 x1 x2 x3
end
def f (k : Nat) (a0 : ByteArray) : Option ByteArray := c (s0 k) some a0
noncomputable abbrev E (k : Nat) : FEnv := env  (s0 k) (s1 k) (s2 k) (s3 k)
theorem hE (k : Nat) : EnvOK (E k).toEnv := ctsOK L0
theorem sk : ∀ k, ∀ s ∈ [sg0 (s0 k), sg1 (s1 k), sg2 (s2 k), sg3 (s3 k)], SegB prog f63 0 s
 | 0 => (Lc (sn (Lc (fun _ _ => rfl) L0)) (Lc (sn (Lc (fun _ _ => rfl) L0)) (Lc (sn (Lc (fun _ _ => rfl) L0)) (Lc (sn (Lc (fun _ _ => rfl) L0)) L0))))
 | k + 1 => (Lc (sg_ok (hE k) (sk k) (Lc s0_ev L0)) (Lc (sg_ok (hE k) (sk k) (Lc s1_ev L0)) (Lc (sg_ok (hE k) (sk k) (Lc s2_ev L0)) (Lc (sg_ok (hE k) (sk k) (Lc s3_ev L0)) L0))))
theorem ok (k : Nat) : CtOK prog 63 (ct (f k)) := fn_ok func63 rfl (by decide) (hE k) (sk k) (Lc ev L0)
end words_Quote
namespace words_Show
abbrev R : Type := ByteArray × Int
def e (r : R) : Res := ⟨.tup [(.one (.d .str r.1)), (.one (.d (.int .i64) r.2))], []⟩
abbrev T (δ : Type) : Type := Int → Int → Int → ByteArray → Option δ
abbrev A {δ : Type} (g : T δ) : Arm δ := ⟨[.s T_api_Value], [], fun x y => g x.1.1.1 x.1.1.2.1 x.1.1.2.2.1 x.1.1.2.2.2.1⟩
abbrev G : Type := T R
def ct (g : G) : Ct := mkCt 0 [] [A g] e
abbrev S0 (δ : Type) : Type := Int → Int → Int → Int → ByteArray → (List Int) → Option δ
abbrev A_0 {δ : Type} (s : S0 δ) : Arm δ := ⟨[.k (.ptr 0 0), .k (.own 1), .d (.int .i64)], [.box [.g T_api_Value], .own (.int .u8) false], fun x y => s x.2.2.1 y.1.1.1 y.1.1.2.1 y.1.1.2.2.1 y.1.1.2.2.2.1 y.2.1⟩
def sg0 (s : S0 R) : Seg := mkSg [4, 1, 0, 1, 2, 1, 3, 1, 3, 1, 4, 1, 0, 1, 1] [.own 5 (.int .u8)] [1, 5, 6] [A_0 s] e
section
variable {β : Type} (g24 : convert_Digits.G) (g62 : values_Check.G) (g63 : words_Quote.G) (s0 : S0 R)
noncomputable abbrev env : FEnv := mkEnv prog f50 [(24, convert_Digits.ct g24), (62, values_Check.ct g62), (63, words_Quote.ct g63)] 0 [] [sg0 s0]
def c (ret : R → Option β) (a0 a1 a2 : Int) (a3 : ByteArray) : Option β := ((g62 a0 a1 a2 a3).bind fun r0 => (bif (r0 != (0 : Int)) then (ret ((ByteArray.mk (List.toArray [])), r0)) else (bif (a0 == (1 : Int)) then (bif ((decide ((0 : Int) ≤ a1)) && (decide (a1 < (2 : Int)))) then (ret ((bif (decide (a1 = (0 : Int))) then (ByteArray.mk (List.toArray [102, 97, 108, 115, 101])) else (ByteArray.mk (List.toArray [116, 114, 117, 101]))), (0 : Int))) else none) else (bif (a0 == (2 : Int)) then ((g24 a1).bind fun r1 => (ret (r1, (0 : Int)))) else (bif (a0 == (3 : Int)) then ((s0 (60 : Int) a0 a1 a2 a3 [(114 : Int)]).bind ret) else (bif (a0 == (4 : Int)) then ((g63 a3).bind fun r2 => (bif (true && (decide (r2.size ≤ (4611686018427387903 : Nat)))) then (ret (((ByteArray.mk (List.toArray [98])) ++ r2), (0 : Int))) else none)) else (bif (a0 == (5 : Int)) then ((g63 a3).bind fun r3 => (ret (r3, (0 : Int)))) else (ret ((ByteArray.mk (List.toArray [110, 117, 108, 108])), (0 : Int))))))))))
def s0c (ret : R → Option β) (x0 x1 : Int) (x2 x3 : Int) (x4 : ByteArray) (x5 : List Int) : Option β := (bif (decide (x0 ≥ (0 : Int))) then (bif (decide ((0 : Int) ≤ x0)) then (bif (true && (decide ((IntKind.wrap .u64 ((BitVec.toNat ((BitVec.ofInt (64 : Nat) (Int.fdiv x3 ((2 : Int) ^ (Min.min (Int.toNat x0) (64 : Nat))))) &&& (BitVec.ofInt (64 : Nat) (15 : Int)))) : Int)) < (16 : Int)))) then (bif (decide (((x5.length + (1 : Nat)) * (1 : Nat)) ≤ (35184372088832 : Nat))) then ((s0 (IntKind.wrap .i64 (x0 - (4 : Int))) x1 x2 x3 x4 (x5 ++ [(bt (ByteArray.mk (List.toArray [48, 49, 50, 51, 52, 53, 54, 55, 56, 57, 97, 98, 99, 100, 101, 102])) (IntKind.wrap .u64 ((BitVec.toNat ((BitVec.ofInt (64 : Nat) (Int.fdiv x3 ((2 : Int) ^ (Min.min (Int.toNat x0) (64 : Nat))))) &&& (BitVec.ofInt (64 : Nat) (15 : Int)))) : Int)))])).bind ret) else none) else none) else none) else (ret ((ByteArray.mk (List.toArray (List.map (fun n => (UInt8.ofNat (Int.toNat n))) x5))), (0 : Int))))
variable {g24} {g62} {g63} {s0}
theorem ev : EvA (env g24 g62 g63 s0) [] [0] e (A (c g24 g62 g63 s0 some)) := fun x y => Eq.trans (b := (A (c g24 g62 g63 s0 fun r => some (e r))).G x y) (by kernel_rfl) (by simp only [A, c, bo, so, oa, os, on, ofs])
theorem s0_ev : EvA (env g24 g62 g63 s0) [4, 1, 0, 1, 2, 1, 3, 1, 3, 1, 4, 1, 0, 1, 1] [1, 5, 6] e (A_0 (s0c s0 some)) := fun x y => Eq.trans (b := (A_0 (s0c s0 fun r => some (e r))).G x y) (by kernel_rfl) (by simp only [A_0, s0c, bo, so, oa, os, on, ofs])
end
def s0 : Nat → S0 R
 | 0, _, _, _, _, _, _ => none
 | k + 1, x0, x1, x2, x3, x4, x5 => s0c (s0 k) some x0 x1 x2 x3 x4 x5
def f (k : Nat) (a0 a1 a2 : Int) (a3 : ByteArray) : Option R := c (convert_Digits.f k) (values_Check.f k) (words_Quote.f k) (s0 k) some a0 a1 a2 a3
noncomputable abbrev E (k : Nat) : FEnv := env (convert_Digits.f k) (values_Check.f k) (words_Quote.f k) (s0 k)
theorem hE (k : Nat) : EnvOK (E k).toEnv := ctsOK (Lc (convert_Digits.ok k) (Lc (values_Check.ok k) (Lc (words_Quote.ok k) L0)))
theorem sk : ∀ k, ∀ s ∈ [sg0 (s0 k)], SegB prog f50 0 s
 | 0 => (Lc (sn (Lc (fun _ _ => rfl) L0)) L0)
 | k + 1 => (Lc (sg_ok (hE k) (sk k) (Lc s0_ev L0)) L0)
theorem ok (k : Nat) : CtOK prog 50 (ct (f k)) := fn_ok func50 rfl (by decide) (hE k) (sk k) (Lc ev L0)
end words_Show
namespace sw_value
abbrev R : Type := Int × (List ByteArray)
def e (r : R) : Res := ⟨.tup [], [some (.box [(.own 1), (.d (.int .i64) r.1)]), some (.own .str false r.2)]⟩
abbrev T (δ : Type) : Type := Int → Int → Int → ByteArray → Int → (List ByteArray) → Option δ
abbrev A {δ : Type} (g : T δ) : Arm δ := ⟨[.k (.ptr 0 0), .s T_api_Value], [.box [.c (.own 1), .g (.int .i64)], .own .str false], fun x y => g x.2.1.1.1 x.2.1.1.2.1 x.2.1.1.2.2.1 x.2.1.1.2.2.2.1 y.1.2.1 y.2.1⟩
abbrev G : Type := T R
def ct (g : G) : Ct := mkCt 1 [] [A g] e
section
variable {β : Type} (g16_0 : sw_word.G0) (g16_1 : sw_word.G1) (g19_0 : sw_fail.G0) (g19_1 : sw_fail.G1) (g50 : words_Show.G)
noncomputable abbrev env : FEnv := mkEnv prog f36 [(16, sw_word.ct g16_0 g16_1), (19, sw_fail.ct g19_0 g19_1), (50, words_Show.ct g50)] 1 [] []
def c (ret : R → Option β) (a0 a1 a2 : Int) (a3 : ByteArray) (a4 : Int) (a5 : List ByteArray) : Option β := ((g50 a0 a1 a2 a3).bind fun r0 => ((g19_0 r0.2 a4 a5).bind fun r1 => (Sum.elim (fun r2 => ((g16_0 [r0.1] r2.1 r2.2).bind fun r3 => (ret (r3.1, r3.2)))) (fun r4 => ((g16_1 [r0.1] r4).bind fun r5 => (ret (r5.1, r5.2)))) r1)))
variable {g16_0} {g16_1} {g19_0} {g19_1} {g50}
theorem ev : EvA (env g16_0 g16_1 g19_0 g19_1 g50) [] [0, 1] e (A (c g16_0 g16_1 g19_0 g50 some)) := fun x y => Eq.trans (b := (A (c g16_0 g16_1 g19_0 g50 fun r => some (e r))).G x y) (by kernel_rfl) (by simp only [A, c, bo, so, oa, os, on, ofs])
end
def f (k : Nat) (a0 a1 a2 : Int) (a3 : ByteArray) (a4 : Int) (a5 : List ByteArray) : Option R := c (sw_word.f0 k) (sw_word.f1 k) (sw_fail.f0 k) (words_Show.f k) some a0 a1 a2 a3 a4 a5
noncomputable abbrev E (k : Nat) : FEnv := env (sw_word.f0 k) (sw_word.f1 k) (sw_fail.f0 k) (sw_fail.f1 k) (words_Show.f k) 
theorem hE (k : Nat) : EnvOK (E k).toEnv := ctsOK (Lc (sw_word.ok k) (Lc (sw_fail.ok k) (Lc (words_Show.ok k) L0)))
theorem ok (k : Nat) : CtOK prog 36 (ct (f k)) := fn_ok func36 rfl (by decide) (hE k) L0 (Lc ev L0)
end sw_value
namespace sw_values
abbrev R : Type := (Int × (List ByteArray)) ⊕ Int
def e (r : R) : Res := Sum.elim (fun r =>  ⟨.tup [], [some (.box [(.own 1), (.d (.int .i64) r.1)]), some (.own .str false r.2)]⟩) (fun r =>  ⟨.tup [], [some (.box [(.raw (.slice none 0 0)), (.d (.int .i64) r)])]⟩) r
abbrev T (δ : Type) : Type := (List D_api_Value) → Int → (List ByteArray) → Option δ
abbrev A {δ : Type} (g : T δ) : Arm δ := ⟨[.k (.ptr 0 0), .d (.sl T_api_Value)], [.box [.c (.own 1), .g (.int .i64)], .own .str false], fun x y => g x.2.1 y.1.2.1 y.2.1⟩
abbrev G : Type := T R
def ek {β : Type} (r : R) (K : Res → Option β) : Option β := Sum.elim (fun r => K ⟨.tup [], [some (.box [(.own 1), (.d (.int .i64) r.1)]), some (.own .str false r.2)]⟩) (fun r => K ⟨.tup [], [some (.box [(.raw (.slice none 0 0)), (.d (.int .i64) r)])]⟩) r
theorem hk {β : Type} (r : R) (K : Res → Option β) : ek r K = K (e r) := by rcases r with _ | _ <;> rfl
def ct (g : G) : Ct := mkCtS 1 [] [A g] e ek hk
abbrev S0 (δ : Type) : Type := (List D_api_Value) → Int → Int → Int → (List ByteArray) → Option δ
abbrev A_0 {δ : Type} (s : S0 δ) : Arm δ := ⟨[.k (.ptr 0 0), .d (.sl T_api_Value), .d (.int .i64), .d (.int .i64)], [.box [.c (.own 1), .g (.int .i64)], .own .str false], fun x y => s x.2.1 x.2.2.1 x.2.2.2.1 y.1.2.1 y.2.1⟩
def sg0 (s : S0 R) : Seg := mkSg [4, 1, 1] [] [0, 11, 12, 13] [A_0 s] e
section
variable {β : Type} (g19_0 : sw_fail.G0) (g19_1 : sw_fail.G1) (g36 : sw_value.G) (s0 : S0 R)
noncomputable abbrev env : FEnv := mkEnv prog f26 [(19, sw_fail.ct g19_0 g19_1), (36, sw_value.ct g36)] 1 [] [sg0 s0]
def c (ret : R → Option β) (a0 : List D_api_Value) (a1 : Int) (a2 : List ByteArray) : Option β := (bif (decide ((a0.length : Int) > (8 : Int))) then ((g19_0 (2 : Int) a1 a2).bind fun r0 => (Sum.elim (fun r1 => (ret (.inl (r1.1, r1.2)))) (fun r2 => (ret (.inr (r2)))) r0)) else ((s0 a0 (a0.length : Int) (0 : Int) a1 a2).bind ret))
def s0c (ret : R → Option β) (x0 : List D_api_Value) (x1 x2 x3 : Int) (x4 : List ByteArray) : Option β := (bif (decide (x2 < x1)) then (bif ((decide ((0 : Int) ≤ x2)) && (decide (x2 < (x0.length : Int)))) then ((g36 (elem T_api_Value x0 x2).1 (elem T_api_Value x0 x2).2.1 (elem T_api_Value x0 x2).2.2.1 (elem T_api_Value x0 x2).2.2.2.1 x3 x4).bind fun r0 => ((s0 x0 x1 (IntKind.wrap .i64 (x2 + (1 : Int))) r0.1 r0.2).bind ret)) else none) else (ret (.inl (x3, x4))))
variable {g19_0} {g19_1} {g36} {s0}
theorem ev : EvA (env g19_0 g19_1 g36 s0) [] [0, 1] e (A (c g19_0 s0 some)) := fun x y => Eq.trans (b := (A (c g19_0 s0 fun r => some (e r))).G x y) (by kernel_rfl) (by simp only [A, c, bo, so, oa, os, on, ofs])
theorem s0_ev : EvA (env g19_0 g19_1 g36 s0) [4, 1, 1] [0, 11, 12, 13] e (A_0 (s0c g36 s0 some)) := fun x y => Eq.trans (b := (A_0 (s0c g36 s0 fun r => some (e r))).G x y) (by kernel_rfl) (by simp only [A_0, s0c, bo, so, oa, os, on, ofs])
end
def s0 : Nat → S0 R
 | 0, _, _, _, _, _ => none
 | k + 1, x0, x1, x2, x3, x4 => s0c (sw_value.f k) (s0 k) some x0 x1 x2 x3 x4
def f (k : Nat) (a0 : List D_api_Value) (a1 : Int) (a2 : List ByteArray) : Option R := c (sw_fail.f0 k) (s0 k) some a0 a1 a2
noncomputable abbrev E (k : Nat) : FEnv := env (sw_fail.f0 k) (sw_fail.f1 k) (sw_value.f k) (s0 k)
theorem hE (k : Nat) : EnvOK (E k).toEnv := ctsOK (Lc (sw_fail.ok k) (Lc (sw_value.ok k) L0))
theorem sk : ∀ k, ∀ s ∈ [sg0 (s0 k)], SegB prog f26 1 s
 | 0 => (Lc (sn (Lc (fun _ _ => rfl) L0)) L0)
 | k + 1 => (Lc (sg_ok (hE k) (sk k) (Lc s0_ev L0)) L0)
theorem ok (k : Nat) : CtOK prog 26 (ct (f k)) := fn_okS hk (fn_ok func26 rfl (by decide) (hE k) (sk k) (Lc ev L0))
end sw_values
namespace values_word
def e (r : ByteArray) : Res := ⟨.v (.one (.d .str r)), []⟩
abbrev T (δ : Type) : Type := Int → Option δ
abbrev A {δ : Type} (g : T δ) : Arm δ := ⟨[.d (.int .i64)], [], fun x y => g x.1⟩
abbrev G : Type := T ByteArray
def ct (g : G) : Ct := mkCt 0 [] [A g] e
section
variable {β : Type} 
noncomputable abbrev env : FEnv := mkEnv prog f64 [] 0 [] []
def c (ret : ByteArray → Option β) (a0 : Int) : Option β := (bif ((decide ((0 : Int) ≤ a0)) && (decide (a0 < (6 : Int)))) then (ret ((bif (decide (a0 = (0 : Int))) then (ByteArray.mk (List.toArray [110, 117, 108, 108])) else (bif (decide (a0 = (1 : Int))) then (ByteArray.mk (List.toArray [98, 111, 111, 108])) else (bif (decide (a0 = (2 : Int))) then (ByteArray.mk (List.toArray [105, 110, 116])) else (bif (decide (a0 = (3 : Int))) then (ByteArray.mk (List.toArray [114, 101, 97, 108])) else (bif (decide (a0 = (4 : Int))) then (ByteArray.mk (List.toArray [98, 121, 116, 101, 115])) else (ByteArray.mk (List.toArray [116, 101, 120, 116]))))))))) else none)
theorem ev : EvA (env) [] [0] e (A (c some)) := fun x y => Eq.trans (b := (A (c fun r => some (e r))).G x y) (by kernel_rfl) (by simp only [A, c, bo, so, oa, os, on, ofs])
end
def f (k : Nat) (a0 : Int) : Option ByteArray := c  some a0
noncomputable abbrev E (k : Nat) : FEnv := env  
theorem hE (k : Nat) : EnvOK (E k).toEnv := ctsOK L0
theorem ok (k : Nat) : CtOK prog 64 (ct (f k)) := fn_ok func64 rfl (by decide) (hE k) L0 (Lc ev L0)
end values_word
namespace values_Name
def e (r : ByteArray) : Res := ⟨.v (.one (.d .str r)), []⟩
abbrev T (δ : Type) : Type := Int → Option δ
abbrev A {δ : Type} (g : T δ) : Arm δ := ⟨[.d (.int .i64)], [], fun x y => g x.1⟩
abbrev G : Type := T ByteArray
def ct (g : G) : Ct := mkCt 0 [] [A g] e
section
variable {β : Type} (g64 : values_word.G)
noncomputable abbrev env : FEnv := mkEnv prog f51 [(64, values_word.ct g64)] 0 [] []
def c (ret : ByteArray → Option β) (a0 : Int) : Option β := (bif (decide (a0 < (0 : Int))) then (ret ((ByteArray.mk (List.toArray [])))) else (bif (decide (a0 ≥ (6 : Int))) then (ret ((ByteArray.mk (List.toArray [])))) else ((g64 a0).bind fun r0 => (ret (r0)))))
variable {g64}
theorem ev : EvA (env g64) [] [0] e (A (c g64 some)) := fun x y => Eq.trans (b := (A (c g64 fun r => some (e r))).G x y) (by kernel_rfl) (by simp only [A, c, bo, so, oa, os, on, ofs])
end
def f (k : Nat) (a0 : Int) : Option ByteArray := c (values_word.f k) some a0
noncomputable abbrev E (k : Nat) : FEnv := env (values_word.f k) 
theorem hE (k : Nat) : EnvOK (E k).toEnv := ctsOK (Lc (values_word.ok k) L0)
theorem ok (k : Nat) : CtOK prog 51 (ct (f k)) := fn_ok func51 rfl (by decide) (hE k) L0 (Lc ev L0)
end values_Name
namespace sw_kind
abbrev R : Type := Int × (List ByteArray)
def e (r : R) : Res := ⟨.tup [], [some (.box [(.own 1), (.d (.int .i64) r.1)]), some (.own .str false r.2)]⟩
abbrev T (δ : Type) : Type := Int → Int → (List ByteArray) → Option δ
abbrev A {δ : Type} (g : T δ) : Arm δ := ⟨[.k (.ptr 0 0), .d (.int .i64)], [.box [.c (.own 1), .g (.int .i64)], .own .str false], fun x y => g x.2.1 y.1.2.1 y.2.1⟩
abbrev G : Type := T R
def ct (g : G) : Ct := mkCt 1 [] [A g] e
section
variable {β : Type} (g16_0 : sw_word.G0) (g16_1 : sw_word.G1) (g19_0 : sw_fail.G0) (g19_1 : sw_fail.G1) (g51 : values_Name.G)
noncomputable abbrev env : FEnv := mkEnv prog f38 [(16, sw_word.ct g16_0 g16_1), (19, sw_fail.ct g19_0 g19_1), (51, values_Name.ct g51)] 1 [] []
def c (ret : R → Option β) (a0 a1 : Int) (a2 : List ByteArray) : Option β := (bif (decide (a0 < (1 : Int))) then ((g19_0 (5 : Int) a1 a2).bind fun r0 => (Sum.elim (fun r1 => ((g51 a0).bind fun r2 => ((g16_0 [r2] r1.1 r1.2).bind fun r3 => (ret (r3.1, r3.2))))) (fun r4 => ((g51 a0).bind fun r5 => ((g16_1 [r5] r4).bind fun r6 => (ret (r6.1, r6.2))))) r0)) else (bif (decide (a0 > (5 : Int))) then ((g19_0 (5 : Int) a1 a2).bind fun r7 => (Sum.elim (fun r8 => ((g51 a0).bind fun r9 => ((g16_0 [r9] r8.1 r8.2).bind fun r10 => (ret (r10.1, r10.2))))) (fun r11 => ((g51 a0).bind fun r12 => ((g16_1 [r12] r11).bind fun r13 => (ret (r13.1, r13.2))))) r7)) else ((g51 a0).bind fun r14 => ((g16_0 [r14] a1 a2).bind fun r15 => (ret (r15.1, r15.2))))))
variable {g16_0} {g16_1} {g19_0} {g19_1} {g51}
theorem ev : EvA (env g16_0 g16_1 g19_0 g19_1 g51) [] [0, 1] e (A (c g16_0 g16_1 g19_0 g51 some)) := fun x y => Eq.trans (b := (A (c g16_0 g16_1 g19_0 g51 fun r => some (e r))).G x y) (by kernel_rfl) (by simp only [A, c, bo, so, oa, os, on, ofs])
end
def f (k : Nat) (a0 a1 : Int) (a2 : List ByteArray) : Option R := c (sw_word.f0 k) (sw_word.f1 k) (sw_fail.f0 k) (values_Name.f k) some a0 a1 a2
noncomputable abbrev E (k : Nat) : FEnv := env (sw_word.f0 k) (sw_word.f1 k) (sw_fail.f0 k) (sw_fail.f1 k) (values_Name.f k) 
theorem hE (k : Nat) : EnvOK (E k).toEnv := ctsOK (Lc (sw_word.ok k) (Lc (sw_fail.ok k) (Lc (values_Name.ok k) L0)))
theorem ok (k : Nat) : CtOK prog 38 (ct (f k)) := fn_ok func38 rfl (by decide) (hE k) L0 (Lc ev L0)
end sw_kind
namespace sw_col
abbrev R : Type := Int × (List ByteArray)
def e (r : R) : Res := ⟨.tup [], [some (.box [(.own 1), (.d (.int .i64) r.1)]), some (.own .str false r.2)]⟩
abbrev T (δ : Type) : Type := ByteArray → Int → Bool → Int → Int → Int → ByteArray → Int → (List ByteArray) → Option δ
abbrev A {δ : Type} (g : T δ) : Arm δ := ⟨[.k (.ptr 0 0), .s T_api_Col], [.box [.c (.own 1), .g (.int .i64)], .own .str false], fun x y => g x.2.1.1.1 x.2.1.1.2.1 x.2.1.1.2.2.1 x.2.1.1.2.2.2.1.1 x.2.1.1.2.2.2.1.2.1 x.2.1.1.2.2.2.1.2.2.1 x.2.1.1.2.2.2.1.2.2.2.1 y.1.2.1 y.2.1⟩
abbrev G : Type := T R
def ct (g : G) : Ct := mkCt 1 [] [A g] e
section
variable {β : Type} (g16_0 : sw_word.G0) (g16_1 : sw_word.G1) (g25 : sw_name.G) (g36 : sw_value.G) (g38 : sw_kind.G)
noncomputable abbrev env : FEnv := mkEnv prog f37 [(16, sw_word.ct g16_0 g16_1), (25, sw_name.ct g25), (36, sw_value.ct g36), (38, sw_kind.ct g38)] 1 [] []
def c (ret : R → Option β) (a0 : ByteArray) (a1 : Int) (a2 : Bool) (a3 a4 a5 : Int) (a6 : ByteArray) (a7 : Int) (a8 : List ByteArray) : Option β := ((g25 [a0] a7 a8).bind fun r0 => ((g38 a1 r0.1 r0.2).bind fun r1 => (bif a2 then ((g16_0 [(ByteArray.mk (List.toArray [110, 117, 108, 108]))] r1.1 r1.2).bind fun r2 => ((g36 a3 a4 a5 a6 r2.1 r2.2).bind fun r3 => (ret (r3.1, r3.2)))) else ((g16_0 [(ByteArray.mk (List.toArray [115, 101, 116]))] r1.1 r1.2).bind fun r4 => ((g36 a3 a4 a5 a6 r4.1 r4.2).bind fun r5 => (ret (r5.1, r5.2)))))))
variable {g16_0} {g16_1} {g25} {g36} {g38}
theorem ev : EvA (env g16_0 g16_1 g25 g36 g38) [] [0, 1] e (A (c g16_0 g25 g36 g38 some)) := fun x y => Eq.trans (b := (A (c g16_0 g25 g36 g38 fun r => some (e r))).G x y) (by kernel_rfl) (by simp only [A, c, bo, so, oa, os, on, ofs])
end
def f (k : Nat) (a0 : ByteArray) (a1 : Int) (a2 : Bool) (a3 a4 a5 : Int) (a6 : ByteArray) (a7 : Int) (a8 : List ByteArray) : Option R := c (sw_word.f0 k) (sw_name.f k) (sw_value.f k) (sw_kind.f k) some a0 a1 a2 a3 a4 a5 a6 a7 a8
noncomputable abbrev E (k : Nat) : FEnv := env (sw_word.f0 k) (sw_word.f1 k) (sw_name.f k) (sw_value.f k) (sw_kind.f k) 
theorem hE (k : Nat) : EnvOK (E k).toEnv := ctsOK (Lc (sw_word.ok k) (Lc (sw_name.ok k) (Lc (sw_value.ok k) (Lc (sw_kind.ok k) L0))))
theorem ok (k : Nat) : CtOK prog 37 (ct (f k)) := fn_ok func37 rfl (by decide) (hE k) L0 (Lc ev L0)
end sw_col
namespace sw_change
abbrev R : Type := (Int × (List ByteArray)) ⊕ Int
def e (r : R) : Res := Sum.elim (fun r =>  ⟨.tup [], [some (.box [(.own 1), (.d (.int .i64) r.1)]), some (.own .str false r.2)]⟩) (fun r =>  ⟨.tup [], [some (.box [(.raw (.slice none 0 0)), (.d (.int .i64) r)])]⟩) r
abbrev T0 (δ : Type) : Type := D_api_Change → Int → (List ByteArray) → Option δ
abbrev A0 {δ : Type} (g : T0 δ) : Arm δ := ⟨[.k (.ptr 0 0), .s T_api_Change], [.box [.c (.own 1), .g (.int .i64)], .own .str false], fun x y => g x.2.1.1 y.1.2.1 y.2.1⟩
abbrev T1 (δ : Type) : Type := D_api_Change → Int → Option δ
abbrev A1 {δ : Type} (g : T1 δ) : Arm δ := ⟨[.k (.ptr 0 0), .s T_api_Change], [.box [.c .nilS, .g (.int .i64)]], fun x y => g x.2.1.1 y.1.2.1⟩
abbrev G0 : Type := T0 R
abbrev G1 : Type := T1 R
def ek {β : Type} (r : R) (K : Res → Option β) : Option β := Sum.elim (fun r => K ⟨.tup [], [some (.box [(.own 1), (.d (.int .i64) r.1)]), some (.own .str false r.2)]⟩) (fun r => K ⟨.tup [], [some (.box [(.raw (.slice none 0 0)), (.d (.int .i64) r)])]⟩) r
theorem hk {β : Type} (r : R) (K : Res → Option β) : ek r K = K (e r) := by rcases r with _ | _ <;> rfl
def ct (g0 : G0) (g1 : G1) : Ct := mkCtS 1 [] [A0 g0, A1 g1] e ek hk
abbrev S0 (δ : Type) : Type := (List D_api_Col) → Int → Int → Int → (List ByteArray) → Option δ
abbrev A_0 {δ : Type} (s : S0 δ) : Arm δ := ⟨[.k (.ptr 0 0), .d (.sl T_api_Col), .d (.int .i64), .d (.int .i64)], [.box [.c (.own 1), .g (.int .i64)], .own .str false], fun x y => s x.2.1 x.2.2.1 x.2.2.2.1 y.1.2.1 y.2.1⟩
def sg0 (s : S0 R) : Seg := mkSg [4, 1, 1, 1, 1, 1, 2, 1, 4, 1, 1] [] [0, 35, 36, 37] [A_0 s] e
section
variable {β : Type} (g16_0 : sw_word.G0) (g16_1 : sw_word.G1) (g17 : sw_number.G) (g19_0 : sw_fail.G0) (g19_1 : sw_fail.G1) (g25 : sw_name.G) (g37 : sw_col.G) (g38 : sw_kind.G) (s0 : S0 R)
noncomputable abbrev env : FEnv := mkEnv prog f27 [(16, sw_word.ct g16_0 g16_1), (17, sw_number.ct g17), (19, sw_fail.ct g19_0 g19_1), (25, sw_name.ct g25), (37, sw_col.ct g37), (38, sw_kind.ct g38)] 1 [] [sg0 s0]
def c0 (ret : R → Option β) (a0 : D_api_Change) (a1 : Int) (a2 : List ByteArray) : Option β := (bif (a0.1 == (1 : Int)) then ((g16_0 [(ByteArray.mk (List.toArray [99, 114, 101, 97, 116, 101]))] a1 a2).bind fun r0 => ((g25 [a0.2.2.2.2.2.2.2.2.2.1.1] r0.1 r0.2).bind fun r1 => ((g17 a0.2.2.2.2.2.2.2.2.2.1.2.1 r1.1 r1.2).bind fun r2 => (bif (decide ((a0.2.2.2.2.2.2.2.2.2.1.2.2.1.length : Int) > (8 : Int))) then ((g19_0 (2 : Int) r2.1 r2.2).bind fun r3 => (Sum.elim (fun r4 => (ret (.inl (r4.1, r4.2)))) (fun r5 => (ret (.inr (r5)))) r3)) else ((s0 a0.2.2.2.2.2.2.2.2.2.1.2.2.1 (a0.2.2.2.2.2.2.2.2.2.1.2.2.1.length : Int) (0 : Int) r2.1 r2.2).bind ret))))) else (bif (a0.1 == (2 : Int)) then ((g16_0 [(ByteArray.mk (List.toArray [97, 100, 100]))] a1 a2).bind fun r6 => ((g25 [a0.2.1] r6.1 r6.2).bind fun r7 => ((g37 a0.2.2.2.2.2.2.2.2.1.1 a0.2.2.2.2.2.2.2.2.1.2.1 a0.2.2.2.2.2.2.2.2.1.2.2.1 a0.2.2.2.2.2.2.2.2.1.2.2.2.1.1 a0.2.2.2.2.2.2.2.2.1.2.2.2.1.2.1 a0.2.2.2.2.2.2.2.2.1.2.2.2.1.2.2.1 a0.2.2.2.2.2.2.2.2.1.2.2.2.1.2.2.2.1 r7.1 r7.2).bind fun r8 => (ret (.inl (r8.1, r8.2)))))) else (bif (a0.1 == (3 : Int)) then ((g16_0 [(ByteArray.mk (List.toArray [100, 114, 111, 112]))] a1 a2).bind fun r9 => ((g25 [a0.2.1, a0.2.2.2.2.2.1] r9.1 r9.2).bind fun r10 => (ret (.inl (r10.1, r10.2))))) else (bif (a0.1 == (4 : Int)) then ((g16_0 [(ByteArray.mk (List.toArray [114, 101, 116, 121, 112, 101]))] a1 a2).bind fun r11 => ((g25 [a0.2.1, a0.2.2.2.2.2.1] r11.1 r11.2).bind fun r12 => ((g38 a0.2.2.2.2.2.2.1 r12.1 r12.2).bind fun r13 => (ret (.inl (r13.1, r13.2)))))) else (bif (a0.1 == (5 : Int)) then ((g16_0 [(ByteArray.mk (List.toArray [115, 112, 108, 105, 116]))] a1 a2).bind fun r14 => ((g25 [a0.2.1, a0.2.2.2.1, a0.2.2.2.2.1] r14.1 r14.2).bind fun r15 => (bif (decide ((a0.2.2.2.2.2.2.2.1.length : Int) > (8 : Int))) then ((g19_0 (2 : Int) r15.1 r15.2).bind fun r16 => (Sum.elim (fun r17 => (ret (.inl (r17.1, r17.2)))) (fun r18 => (ret (.inr (r18)))) r16)) else ((g25 a0.2.2.2.2.2.2.2.1 r15.1 r15.2).bind fun r19 => (ret (.inl (r19.1, r19.2))))))) else (bif (a0.1 == (6 : Int)) then ((g16_0 [(ByteArray.mk (List.toArray [109, 101, 114, 103, 101]))] a1 a2).bind fun r20 => ((g25 [a0.2.1, a0.2.2.1, a0.2.2.2.1] r20.1 r20.2).bind fun r21 => (ret (.inl (r21.1, r21.2))))) else ((g19_0 (1 : Int) a1 a2).bind fun r22 => (Sum.elim (fun r23 => (ret (.inl (r23.1, r23.2)))) (fun r24 => (ret (.inr (r24)))) r22))))))))
def c1 (ret : R → Option β) (a0 : D_api_Change) (a1 : Int) : Option β := (bif (a0.1 == (1 : Int)) then ((g16_1 [(ByteArray.mk (List.toArray [99, 114, 101, 97, 116, 101]))] a1).bind fun r0 => ((g25 [a0.2.2.2.2.2.2.2.2.2.1.1] r0.1 r0.2).bind fun r1 => ((g17 a0.2.2.2.2.2.2.2.2.2.1.2.1 r1.1 r1.2).bind fun r2 => (bif (decide ((a0.2.2.2.2.2.2.2.2.2.1.2.2.1.length : Int) > (8 : Int))) then ((g19_0 (2 : Int) r2.1 r2.2).bind fun r3 => (Sum.elim (fun r4 => (ret (.inl (r4.1, r4.2)))) (fun r5 => (ret (.inr (r5)))) r3)) else ((s0 a0.2.2.2.2.2.2.2.2.2.1.2.2.1 (a0.2.2.2.2.2.2.2.2.2.1.2.2.1.length : Int) (0 : Int) r2.1 r2.2).bind ret))))) else (bif (a0.1 == (2 : Int)) then ((g16_1 [(ByteArray.mk (List.toArray [97, 100, 100]))] a1).bind fun r6 => ((g25 [a0.2.1] r6.1 r6.2).bind fun r7 => ((g37 a0.2.2.2.2.2.2.2.2.1.1 a0.2.2.2.2.2.2.2.2.1.2.1 a0.2.2.2.2.2.2.2.2.1.2.2.1 a0.2.2.2.2.2.2.2.2.1.2.2.2.1.1 a0.2.2.2.2.2.2.2.2.1.2.2.2.1.2.1 a0.2.2.2.2.2.2.2.2.1.2.2.2.1.2.2.1 a0.2.2.2.2.2.2.2.2.1.2.2.2.1.2.2.2.1 r7.1 r7.2).bind fun r8 => (ret (.inl (r8.1, r8.2)))))) else (bif (a0.1 == (3 : Int)) then ((g16_1 [(ByteArray.mk (List.toArray [100, 114, 111, 112]))] a1).bind fun r9 => ((g25 [a0.2.1, a0.2.2.2.2.2.1] r9.1 r9.2).bind fun r10 => (ret (.inl (r10.1, r10.2))))) else (bif (a0.1 == (4 : Int)) then ((g16_1 [(ByteArray.mk (List.toArray [114, 101, 116, 121, 112, 101]))] a1).bind fun r11 => ((g25 [a0.2.1, a0.2.2.2.2.2.1] r11.1 r11.2).bind fun r12 => ((g38 a0.2.2.2.2.2.2.1 r12.1 r12.2).bind fun r13 => (ret (.inl (r13.1, r13.2)))))) else (bif (a0.1 == (5 : Int)) then ((g16_1 [(ByteArray.mk (List.toArray [115, 112, 108, 105, 116]))] a1).bind fun r14 => ((g25 [a0.2.1, a0.2.2.2.1, a0.2.2.2.2.1] r14.1 r14.2).bind fun r15 => (bif (decide ((a0.2.2.2.2.2.2.2.1.length : Int) > (8 : Int))) then ((g19_0 (2 : Int) r15.1 r15.2).bind fun r16 => (Sum.elim (fun r17 => (ret (.inl (r17.1, r17.2)))) (fun r18 => (ret (.inr (r18)))) r16)) else ((g25 a0.2.2.2.2.2.2.2.1 r15.1 r15.2).bind fun r19 => (ret (.inl (r19.1, r19.2))))))) else (bif (a0.1 == (6 : Int)) then ((g16_1 [(ByteArray.mk (List.toArray [109, 101, 114, 103, 101]))] a1).bind fun r20 => ((g25 [a0.2.1, a0.2.2.1, a0.2.2.2.1] r20.1 r20.2).bind fun r21 => (ret (.inl (r21.1, r21.2))))) else ((g19_1 (1 : Int) a1).bind fun r22 => (Sum.elim (fun r23 => (ret (.inl (r23.1, r23.2)))) (fun r24 => (ret (.inr (r24)))) r22))))))))
def s0c (ret : R → Option β) (x0 : List D_api_Col) (x1 x2 x3 : Int) (x4 : List ByteArray) : Option β := (bif (decide (x2 < x1)) then (bif ((decide ((0 : Int) ≤ x2)) && (decide (x2 < (x0.length : Int)))) then ((g37 (elem T_api_Col x0 x2).1 (elem T_api_Col x0 x2).2.1 (elem T_api_Col x0 x2).2.2.1 (elem T_api_Col x0 x2).2.2.2.1.1 (elem T_api_Col x0 x2).2.2.2.1.2.1 (elem T_api_Col x0 x2).2.2.2.1.2.2.1 (elem T_api_Col x0 x2).2.2.2.1.2.2.2.1 x3 x4).bind fun r0 => ((s0 x0 x1 (IntKind.wrap .i64 (x2 + (1 : Int))) r0.1 r0.2).bind ret)) else none) else (ret (.inl (x3, x4))))
variable {g16_0} {g16_1} {g17} {g19_0} {g19_1} {g25} {g37} {g38} {s0}
theorem ev0 : EvA (env g16_0 g16_1 g17 g19_0 g19_1 g25 g37 g38 s0) [] [0, 1] e (A0 (c0 g16_0 g17 g19_0 g25 g37 g38 s0 some)) := fun x y => Eq.trans (b := (A0 (c0 g16_0 g17 g19_0 g25 g37 g38 s0 fun r => some (e r))).G x y) (by kernel_rfl) (by simp only [A0, c0, bo, so, oa, os, on, ofs])
theorem ev1 : EvA (env g16_0 g16_1 g17 g19_0 g19_1 g25 g37 g38 s0) [] [0, 1] e (A1 (c1 g16_1 g17 g19_0 g19_1 g25 g37 g38 s0 some)) := fun x y => Eq.trans (b := (A1 (c1 g16_1 g17 g19_0 g19_1 g25 g37 g38 s0 fun r => some (e r))).G x y) (by kernel_rfl) (by simp only [A1, c1, bo, so, oa, os, on, ofs])
theorem s0_ev : EvA (env g16_0 g16_1 g17 g19_0 g19_1 g25 g37 g38 s0) [4, 1, 1, 1, 1, 1, 2, 1, 4, 1, 1] [0, 35, 36, 37] e (A_0 (s0c g37 s0 some)) := fun x y => Eq.trans (b := (A_0 (s0c g37 s0 fun r => some (e r))).G x y) (by kernel_rfl) (by simp only [A_0, s0c, bo, so, oa, os, on, ofs])
end
def s0 : Nat → S0 R
 | 0, _, _, _, _, _ => none
 | k + 1, x0, x1, x2, x3, x4 => s0c (sw_col.f k) (s0 k) some x0 x1 x2 x3 x4
def f0 (k : Nat) (a0 : D_api_Change) (a1 : Int) (a2 : List ByteArray) : Option R := c0 (sw_word.f0 k) (sw_number.f k) (sw_fail.f0 k) (sw_name.f k) (sw_col.f k) (sw_kind.f k) (s0 k) some a0 a1 a2
def f1 (k : Nat) (a0 : D_api_Change) (a1 : Int) : Option R := c1 (sw_word.f1 k) (sw_number.f k) (sw_fail.f0 k) (sw_fail.f1 k) (sw_name.f k) (sw_col.f k) (sw_kind.f k) (s0 k) some a0 a1
noncomputable abbrev E (k : Nat) : FEnv := env (sw_word.f0 k) (sw_word.f1 k) (sw_number.f k) (sw_fail.f0 k) (sw_fail.f1 k) (sw_name.f k) (sw_col.f k) (sw_kind.f k) (s0 k)
theorem hE (k : Nat) : EnvOK (E k).toEnv := ctsOK (Lc (sw_word.ok k) (Lc (sw_number.ok k) (Lc (sw_fail.ok k) (Lc (sw_name.ok k) (Lc (sw_col.ok k) (Lc (sw_kind.ok k) L0))))))
theorem sk : ∀ k, ∀ s ∈ [sg0 (s0 k)], SegB prog f27 1 s
 | 0 => (Lc (sn (Lc (fun _ _ => rfl) L0)) L0)
 | k + 1 => (Lc (sg_ok (hE k) (sk k) (Lc s0_ev L0)) L0)
theorem ok (k : Nat) : CtOK prog 27 (ct (f0 k) (f1 k)) := fn_okS hk (fn_ok func27 rfl (by decide) (hE k) (sk k) (Lc ev0 (Lc ev1 L0)))
end sw_change
namespace story_verbs
abbrev R : Type := (List (Int × ByteArray))
def e (r : R) : Res := ⟨.v (.one (.mp 0)), [some (.mp (.int .i64) .str r)]⟩
abbrev T (δ : Type) : Type := Option δ
abbrev A {δ : Type} (g : T δ) : Arm δ := ⟨[], [], fun x y => g⟩
abbrev G : Type := T R
def ct (g : G) : Ct := mkCt 0 [] [A g] e
section
variable {β : Type} 
noncomputable abbrev env : FEnv := mkEnv prog f28 [] 0 [] []
def c (ret : R → Option β)  : Option β := (ret (((((((([] ++ [((1 : Int), (ByteArray.mk (List.toArray [103, 101, 116])))]) ++ [((3 : Int), (ByteArray.mk (List.toArray [105, 110, 115, 101, 114, 116])))]) ++ [((4 : Int), (ByteArray.mk (List.toArray [117, 112, 100, 97, 116, 101])))]) ++ [((5 : Int), (ByteArray.mk (List.toArray [100, 101, 108, 101, 116, 101])))]) ++ [((7 : Int), (ByteArray.mk (List.toArray [98, 101, 103, 105, 110])))]) ++ [((8 : Int), (ByteArray.mk (List.toArray [99, 111, 109, 109, 105, 116])))]) ++ [((9 : Int), (ByteArray.mk (List.toArray [97, 98, 111, 114, 116])))])))
theorem ev : EvA (env) [] [] e (A (c some)) := fun x y => Eq.trans (b := (A (c fun r => some (e r))).G x y) (by kernel_rfl) (by simp only [A, c, bo, so, oa, os, on, ofs])
end
def f (k : Nat)  : Option R := c  some 
noncomputable abbrev E (k : Nat) : FEnv := env  
theorem hE (k : Nat) : EnvOK (E k).toEnv := ctsOK L0
theorem ok (k : Nat) : CtOK prog 28 (ct (f k)) := fn_ok func28 rfl (by decide) (hE k) L0 (Lc ev L0)
end story_verbs
end Go.Proofs.YtimadphjdkjgaaaDoor.Aev
