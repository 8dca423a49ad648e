import Derived.Test.YtimadphjdkjgaaaGreatDoorTys
import Derived.Test.YtimadphjdkjgaaaGreatDoorProg
import Derived.Laws.Externs
import Derived.Lib.Bytealg
/- By a program of this session (AEV): functions of the program as plain functions, and that the machine does what they say. -/
namespace Go.Proofs.YtimadphjdkjgaaaGreatDoor.Aev
set_option linter.unusedVariables false
set_option linter.unusedSimpArgs false
set_option maxRecDepth 100000
set_option maxHeartbeats 4000000
open Go Go.Proofs.Tryz
namespace story_plain
abbrev R : Type := (List (Int × ByteArray))
def e (r : R) : Res := ⟨.v (.one (.mp 0)), [some (.mp (.int .i64) .str r)]⟩
abbrev T (δ : Type) : Type := Option δ
abbrev A {δ : Type} (g : T δ) : Arm δ := ⟨[], [], fun x y => g⟩
abbrev G : Type := T R
def ct (g : G) : Ct := mkCt 0 [] [A g] e
section
variable {β : Type} 
noncomputable abbrev env : FEnv := mkEnv prog f26 [] 0 [] []
def c (ret : R → Option β)  : Option β := (ret ((((([] ++ [((3 : Int), (ByteArray.mk (List.toArray [109, 105, 103, 114, 97, 116, 101])))]) ++ [((4 : Int), (ByteArray.mk (List.toArray [116, 105, 99, 107])))]) ++ [((5 : Int), (ByteArray.mk (List.toArray [99, 111, 108, 108, 101, 99, 116])))]) ++ [((6 : Int), (ByteArray.mk (List.toArray [102, 114, 101, 101])))])))
theorem ev : EvA (env) [] [] e (A (c some)) := fun x y => Eq.trans (b := (A (c fun r => some (e r))).G x y) (by kernel_rfl) (by simp only [A, c, bo, so, oa, os, on, ofs])
end
def f (k : Nat)  : Option R := c  some 
noncomputable abbrev E (k : Nat) : FEnv := env  
theorem hE (k : Nat) : EnvOK (E k).toEnv := ctsOK L0
theorem ok (k : Nat) : CtOK prog 26 (ct (f k)) := fn_ok func26 rfl (by decide) (hE k) L0 (Lc ev L0)
end story_plain
namespace sw_word
abbrev R : Type := Int × (List ByteArray)
def e (r : R) : Res := ⟨.tup [], [some (.box [(.own 1), (.d (.int .i64) r.1)]), some (.own .str false r.2)]⟩
abbrev T0 (δ : Type) : Type := (List ByteArray) → Int → (List ByteArray) → Option δ
abbrev A0 {δ : Type} (g : T0 δ) : Arm δ := ⟨[.k (.ptr 0 0), .d (.sl .str)], [.box [.c (.own 1), .g (.int .i64)], .own .str false], fun x y => g x.2.1 y.1.2.1 y.2.1⟩
abbrev T1 (δ : Type) : Type := (List ByteArray) → Int → Option δ
abbrev A1 {δ : Type} (g : T1 δ) : Arm δ := ⟨[.k (.ptr 0 0), .d (.sl .str)], [.box [.c .nilS, .g (.int .i64)]], fun x y => g x.2.1 y.1.2.1⟩
abbrev G0 : Type := T0 R
abbrev G1 : Type := T1 R
def ct (g0 : G0) (g1 : G1) : Ct := mkCt 1 [] [A0 g0, A1 g1] e
section
variable {β : Type} 
noncomputable abbrev env : FEnv := mkEnv prog f27 [] 1 [] []
def c0 (ret : R → Option β) (a0 : List ByteArray) (a1 : Int) (a2 : List ByteArray) : Option β := (bif (decide (((a2.length + a0.length) * (16 : Nat)) ≤ (35184372088832 : Nat))) then (ret (a1, (a2 ++ a0))) else none)
def c1 (ret : R → Option β) (a0 : List ByteArray) (a1 : Int) : Option β := (bif (decide ((((0 : Nat) + a0.length) * (16 : Nat)) ≤ (35184372088832 : Nat))) then (ret (a1, ([] ++ a0))) else none)
theorem ev0 : EvA (env) [] [0, 1] e (A0 (c0 some)) := fun x y => Eq.trans (b := (A0 (c0 fun r => some (e r))).G x y) (by kernel_rfl) (by simp only [A0, c0, bo, so, oa, os, on, ofs])
theorem ev1 : EvA (env) [] [0, 1] e (A1 (c1 some)) := fun x y => Eq.trans (b := (A1 (c1 fun r => some (e r))).G x y) (by kernel_rfl) (by simp only [A1, c1, bo, so, oa, os, on, ofs])
end
def f0 (k : Nat) (a0 : List ByteArray) (a1 : Int) (a2 : List ByteArray) : Option R := c0  some a0 a1 a2
def f1 (k : Nat) (a0 : List ByteArray) (a1 : Int) : Option R := c1  some a0 a1
noncomputable abbrev E (k : Nat) : FEnv := env  
theorem hE (k : Nat) : EnvOK (E k).toEnv := ctsOK L0
theorem ok (k : Nat) : CtOK prog 27 (ct (f0 k) (f1 k)) := fn_ok func27 rfl (by decide) (hE k) L0 (Lc ev0 (Lc ev1 L0))
end sw_word
namespace sw_fail
abbrev R : Type := (Int × (List ByteArray)) ⊕ Int
def e (r : R) : Res := Sum.elim (fun r =>  ⟨.tup [], [some (.box [(.own 1), (.d (.int .i64) r.1)]), some (.own .str false r.2)]⟩) (fun r =>  ⟨.tup [], [some (.box [(.raw (.slice none 0 0)), (.d (.int .i64) r)])]⟩) r
abbrev T0 (δ : Type) : Type := Int → Int → (List ByteArray) → Option δ
abbrev A0 {δ : Type} (g : T0 δ) : Arm δ := ⟨[.k (.ptr 0 0), .d (.int .i64)], [.box [.c (.own 1), .g (.int .i64)], .own .str false], fun x y => g x.2.1 y.1.2.1 y.2.1⟩
abbrev T1 (δ : Type) : Type := Int → Int → Option δ
abbrev A1 {δ : Type} (g : T1 δ) : Arm δ := ⟨[.k (.ptr 0 0), .d (.int .i64)], [.box [.c .nilS, .g (.int .i64)]], fun x y => g x.2.1 y.1.2.1⟩
abbrev G0 : Type := T0 R
abbrev G1 : Type := T1 R
def ek {β : Type} (r : R) (K : Res → Option β) : Option β := Sum.elim (fun r => K ⟨.tup [], [some (.box [(.own 1), (.d (.int .i64) r.1)]), some (.own .str false r.2)]⟩) (fun r => K ⟨.tup [], [some (.box [(.raw (.slice none 0 0)), (.d (.int .i64) r)])]⟩) r
theorem hk {β : Type} (r : R) (K : Res → Option β) : ek r K = K (e r) := by rcases r with _ | _ <;> rfl
def ct (g0 : G0) (g1 : G1) : Ct := mkCtS 1 [] [A0 g0, A1 g1] e ek hk
section
variable {β : Type} 
noncomputable abbrev env : FEnv := mkEnv prog f30 [] 1 [] []
def c0 (ret : R → Option β) (a0 a1 : Int) (a2 : List ByteArray) : Option β := (bif (a1 == (0 : Int)) then (ret (.inl (a0, a2))) else (ret (.inl (a1, a2))))
def c1 (ret : R → Option β) (a0 a1 : Int) : Option β := (bif (a1 == (0 : Int)) then (ret (.inr (a0))) else (ret (.inr (a1))))
theorem ev0 : EvA (env) [] [0, 1] e (A0 (c0 some)) := fun x y => Eq.trans (b := (A0 (c0 fun r => some (e r))).G x y) (by kernel_rfl) (by simp only [A0, c0, bo, so, oa, os, on, ofs])
theorem ev1 : EvA (env) [] [0, 1] e (A1 (c1 some)) := fun x y => Eq.trans (b := (A1 (c1 fun r => some (e r))).G x y) (by kernel_rfl) (by simp only [A1, c1, bo, so, oa, os, on, ofs])
end
def f0 (k : Nat) (a0 a1 : Int) (a2 : List ByteArray) : Option R := c0  some a0 a1 a2
def f1 (k : Nat) (a0 a1 : Int) : Option R := c1  some a0 a1
noncomputable abbrev E (k : Nat) : FEnv := env  
theorem hE (k : Nat) : EnvOK (E k).toEnv := ctsOK L0
theorem ok (k : Nat) : CtOK prog 30 (ct (f0 k) (f1 k)) := fn_okS hk (fn_ok func30 rfl (by decide) (hE k) L0 (Lc ev0 (Lc ev1 L0)))
end sw_fail
namespace convert_Digits
def e (r : ByteArray) : Res := ⟨.v (.one (.d .str r)), []⟩
abbrev T (δ : Type) : Type := Int → Option δ
abbrev A {δ : Type} (g : T δ) : Arm δ := ⟨[.d (.int .i64)], [], fun x y => g x.1⟩
abbrev G : Type := T ByteArray
def ct (g : G) : Ct := mkCt 0 [] [A g] e
abbrev S0 (δ : Type) : Type := Int → Int → Option δ
abbrev A_0 {δ : Type} (s : S0 δ) : Arm δ := ⟨[.d (.int .i64), .d (.int .u64)], [], fun x y => s x.1 x.2.1⟩
abbrev S1 (δ : Type) : Type := Int → Int → Int → (List Int) → Option δ
abbrev A_1 {δ : Type} (s : S1 δ) : Arm δ := ⟨[.d (.int .i64), .d (.int .u64), .k (.arr 0 20), .d (.int .i64)], [.own (.int .u8) true], fun x y => s x.1 x.2.1 x.2.2.2.1 y.1⟩
abbrev S2 (δ : Type) : Type := Int → Int → Int → Bool → (List Int) → Option δ
abbrev A_2 {δ : Type} (s : S2 δ) : Arm δ := ⟨[.d (.int .i64), .d (.int .u64), .k (.arr 0 20), .d (.int .i64), .d .bool], [.own (.int .u8) true], fun x y => s x.1 x.2.1 x.2.2.2.1 x.2.2.2.2.1 y.1⟩
abbrev S3 (δ : Type) : Type := Int → Int → Int → (List Int) → Option δ
abbrev A_3 {δ : Type} (s : S3 δ) : Arm δ := ⟨[.d (.int .i64), .d (.int .u64), .k (.arr 0 20), .d (.int .i64)], [.own (.int .u8) true], fun x y => s x.1 x.2.1 x.2.2.2.1 y.1⟩
def sg0 (s : S0 ByteArray) : Seg := mkSg [1, 1, 1] [] [0, 3] [A_0 s] e
def sg1 (s : S1 ByteArray) : Seg := mkSg [4, 0, 1, 1, 1, 1, 1] [] [0, 3, 4, 5] [A_1 s] e
def sg2 (s : S2 ByteArray) : Seg := mkSg [1, 0, 5, 4, 0, 1, 1, 1, 1, 1] [] [0, 3, 4, 5, 17] [A_2 s] e
def sg3 (s : S3 ByteArray) : Seg := mkSg [1, 5, 4, 0, 1, 1, 1, 1, 1] [] [0, 3, 4, 5] [A_3 s] e
section
variable {β : Type} (s0 : S0 ByteArray) (s1 : S1 ByteArray) (s2 : S2 ByteArray) (s3 : S3 ByteArray)
noncomputable abbrev env : FEnv := mkEnv prog f55 [] 0 [] [sg0 s0, sg1 s1, sg2 s2, sg3 s3]
def c (ret : ByteArray → Option β) (a0 : Int) : Option β := (bif (decide (a0 < (0 : Int))) then ((s0 a0 (IntKind.wrap .u64 ((0 : Int) - (IntKind.wrap .u64 a0)))).bind ret) else ((s0 a0 (IntKind.wrap .u64 a0)).bind ret))
def s0c (ret : ByteArray → Option β) (x0 x1 : Int) : Option β := ((s1 x0 x1 (20 : Int) [(0 : Int), (0 : Int), (0 : Int), (0 : Int), (0 : Int), (0 : Int), (0 : Int), (0 : Int), (0 : Int), (0 : Int), (0 : Int), (0 : Int), (0 : Int), (0 : Int), (0 : Int), (0 : Int), (0 : Int), (0 : Int), (0 : Int), (0 : Int)]).bind ret)
def s1c (ret : ByteArray → Option β) (x0 x1 x2 : Int) (x3 : List Int) : Option β := (bif (x2 == (20 : Int)) then ((s2 x0 x1 x2 true x3).bind ret) else ((s2 x0 x1 x2 (decide (x1 > (0 : Int))) x3).bind ret))
def s2c (ret : ByteArray → Option β) (x0 x1 x2 : Int) (x3 : Bool) (x4 : List Int) : Option β := (bif x3 then ((s3 x0 x1 x2 x4).bind ret) else (bif (decide (x0 < (0 : Int))) then (bif ((decide ((0 : Int) ≤ (IntKind.wrap .i64 (x2 - (1 : Int))))) && (decide ((IntKind.wrap .i64 (x2 - (1 : Int))) < (20 : Int)))) then (bif (((decide ((0 : Int) ≤ (IntKind.wrap .i64 (x2 - (1 : Int))))) && (decide ((IntKind.wrap .i64 (x2 - (1 : Int))) ≤ (20 : Int)))) && true) then (ret ((ByteArray.mk (List.toArray (List.map (fun n => (UInt8.ofNat (Int.toNat n))) (List.take ((20 : Nat) - (Int.toNat (IntKind.wrap .i64 (x2 - (1 : Int))))) (List.drop (Int.toNat (IntKind.wrap .i64 (x2 - (1 : Int)))) (List.set x4 (Int.toNat (IntKind.wrap .i64 (x2 - (1 : Int)))) (45 : Int))))))))) else none) else none) else (bif (((decide ((0 : Int) ≤ x2)) && (decide (x2 ≤ (20 : Int)))) && true) then (ret ((ByteArray.mk (List.toArray (List.map (fun n => (UInt8.ofNat (Int.toNat n))) (List.take ((20 : Nat) - (Int.toNat x2)) (List.drop (Int.toNat x2) x4))))))) else none)))
def s3c (ret : ByteArray → Option β) (x0 x1 x2 : Int) (x3 : List Int) : Option β := (bif ((decide ((0 : Int) ≤ (IntKind.wrap .i64 (x2 - (1 : Int))))) && (decide ((IntKind.wrap .i64 (x2 - (1 : Int))) < (20 : Int)))) then ((s1 x0 (IntKind.wrap .u64 (Int.tdiv x1 (10 : Int))) (IntKind.wrap .i64 (x2 - (1 : Int))) (List.set x3 (Int.toNat (IntKind.wrap .i64 (x2 - (1 : Int)))) (IntKind.wrap .u8 (IntKind.wrap .u64 ((48 : Int) + (Int.tmod x1 (10 : Int))))))).bind ret) else none)
variable {s0} {s1} {s2} {s3}
theorem ev : EvA (env s0 s1 s2 s3) [] [0] e (A (c s0 some)) := fun x y => Eq.trans (b := (A (c s0 fun r => some (e r))).G x y) (by kernel_rfl) (by simp only [A, c, bo, so, oa, os, on, ofs])
theorem s0_ev : EvA (env s0 s1 s2 s3) [1, 1, 1] [0, 3] e (A_0 (s0c s1 some)) := fun x y => Eq.trans (b := (A_0 (s0c s1 fun r => some (e r))).G x y) (by kernel_rfl) (by simp only [A_0, s0c, bo, so, oa, os, on, ofs])
theorem s1_ev : EvA (env s0 s1 s2 s3) [4, 0, 1, 1, 1, 1, 1] [0, 3, 4, 5] e (A_1 (s1c s2 some)) := fun x y => Eq.trans (b := (A_1 (s1c s2 fun r => some (e r))).G x y) (by kernel_rfl) (by simp only [A_1, s1c, bo, so, oa, os, on, ofs])
theorem s2_ev : EvA (env s0 s1 s2 s3) [1, 0, 5, 4, 0, 1, 1, 1, 1, 1] [0, 3, 4, 5, 17] e (A_2 (s2c s3 some)) := fun x y => Eq.trans (b := (A_2 (s2c s3 fun r => some (e r))).G x y) (by kernel_rfl) (by simp only [A_2, s2c, bo, so, oa, os, on, ofs])
theorem s3_ev : EvA (env s0 s1 s2 s3) [1, 5, 4, 0, 1, 1, 1, 1, 1] [0, 3, 4, 5] e (A_3 (s3c s1 some)) := fun x y => Eq.trans (b := (A_3 (s3c s1 fun r => some (e r))).G x y) (by kernel_rfl) (by simp only [A_3, s3c, bo, so, oa, os, on, ofs])
end
mutual
def s0 : Nat → S0 ByteArray
 | 0, _, _ => none
 | k + 1, x0, x1 => s0c (s1 k) some x0 x1
def s1 : Nat → S1 ByteArray
 | 0, _, _, _, _ => none
 | k + 1, x0, x1, x2, x3 => s1c (s2 k) some x0 x1 x2 x3
def s2 : Nat → S2 ByteArray
 | 0, _, _, _, _, _ => none
 | k + 1, x0, x1, x2, x3, x4 => s2c (s3 k) some x0 x1 x2 x3 x4
def s3 : Nat → S3 ByteArray
 | 0, _, _, _, _ => none
 | k + 1, x0, x1, x2, x3 => s3c (s1 k) some x0 x1 x2 x3
end
def f (k : Nat) (a0 : Int) : Option ByteArray := c (s0 k) some a0
noncomputable abbrev E (k : Nat) : FEnv := env  (s0 k) (s1 k) (s2 k) (s3 k)
theorem hE (k : Nat) : EnvOK (E k).toEnv := ctsOK L0
theorem sk : ∀ k, ∀ s ∈ [sg0 (s0 k), sg1 (s1 k), sg2 (s2 k), sg3 (s3 k)], SegB prog f55 0 s
 | 0 => (Lc (sn (Lc (fun _ _ => rfl) L0)) (Lc (sn (Lc (fun _ _ => rfl) L0)) (Lc (sn (Lc (fun _ _ => rfl) L0)) (Lc (sn (Lc (fun _ _ => rfl) L0)) L0))))
 | k + 1 => (Lc (sg_ok (hE k) (sk k) (Lc s0_ev L0)) (Lc (sg_ok (hE k) (sk k) (Lc s1_ev L0)) (Lc (sg_ok (hE k) (sk k) (Lc s2_ev L0)) (Lc (sg_ok (hE k) (sk k) (Lc s3_ev L0)) L0))))
theorem ok (k : Nat) : CtOK prog 55 (ct (f k)) := fn_ok func55 rfl (by decide) (hE k) (sk k) (Lc ev L0)
end convert_Digits
namespace sw_number
abbrev R : Type := Int × (List ByteArray)
def e (r : R) : Res := ⟨.tup [], [some (.box [(.own 1), (.d (.int .i64) r.1)]), some (.own .str false r.2)]⟩
abbrev T (δ : Type) : Type := Int → Int → (List ByteArray) → Option δ
abbrev A {δ : Type} (g : T δ) : Arm δ := ⟨[.k (.ptr 0 0), .d (.int .i64)], [.box [.c (.own 1), .g (.int .i64)], .own .str false], fun x y => g x.2.1 y.1.2.1 y.2.1⟩
abbrev G : Type := T R
def ct (g : G) : Ct := mkCt 1 [] [A g] e
section
variable {β : Type} (g27_0 : sw_word.G0) (g27_1 : sw_word.G1) (g30_0 : sw_fail.G0) (g30_1 : sw_fail.G1) (g55 : convert_Digits.G)
noncomputable abbrev env : FEnv := mkEnv prog f28 [(27, sw_word.ct g27_0 g27_1), (30, sw_fail.ct g30_0 g30_1), (55, convert_Digits.ct g55)] 1 [] []
def c (ret : R → Option β) (a0 a1 : Int) (a2 : List ByteArray) : Option β := (bif (decide (a0 < (0 : Int))) then ((g30_0 (1 : Int) a1 a2).bind fun r0 => (Sum.elim (fun r1 => ((g55 a0).bind fun r2 => ((g27_0 [r2] r1.1 r1.2).bind fun r3 => (ret (r3.1, r3.2))))) (fun r4 => ((g55 a0).bind fun r5 => ((g27_1 [r5] r4).bind fun r6 => (ret (r6.1, r6.2))))) r0)) else (bif (decide (a0 > (1000 : Int))) then ((g30_0 (1 : Int) a1 a2).bind fun r7 => (Sum.elim (fun r8 => ((g55 a0).bind fun r9 => ((g27_0 [r9] r8.1 r8.2).bind fun r10 => (ret (r10.1, r10.2))))) (fun r11 => ((g55 a0).bind fun r12 => ((g27_1 [r12] r11).bind fun r13 => (ret (r13.1, r13.2))))) r7)) else ((g55 a0).bind fun r14 => ((g27_0 [r14] a1 a2).bind fun r15 => (ret (r15.1, r15.2))))))
variable {g27_0} {g27_1} {g30_0} {g30_1} {g55}
theorem ev : EvA (env g27_0 g27_1 g30_0 g30_1 g55) [] [0, 1] e (A (c g27_0 g27_1 g30_0 g55 some)) := fun x y => Eq.trans (b := (A (c g27_0 g27_1 g30_0 g55 fun r => some (e r))).G x y) (by kernel_rfl) (by simp only [A, c, bo, so, oa, os, on, ofs])
end
def f (k : Nat) (a0 a1 : Int) (a2 : List ByteArray) : Option R := c (sw_word.f0 k) (sw_word.f1 k) (sw_fail.f0 k) (convert_Digits.f k) some a0 a1 a2
noncomputable abbrev E (k : Nat) : FEnv := env (sw_word.f0 k) (sw_word.f1 k) (sw_fail.f0 k) (sw_fail.f1 k) (convert_Digits.f k) 
theorem hE (k : Nat) : EnvOK (E k).toEnv := ctsOK (Lc (sw_word.ok k) (Lc (sw_fail.ok k) (Lc (convert_Digits.ok k) L0)))
theorem ok (k : Nat) : CtOK prog 28 (ct (f k)) := fn_ok func28 rfl (by decide) (hE k) L0 (Lc ev L0)
end sw_number
namespace names_Check
def e (r : Int) : Res := ⟨.v (.one (.d (.int .i64) r)), []⟩
abbrev T (δ : Type) : Type := ByteArray → Option δ
abbrev A {δ : Type} (g : T δ) : Arm δ := ⟨[.d .str], [], fun x y => g x.1⟩
abbrev G : Type := T Int
def ct (g : G) : Ct := mkCt 0 [] [A g] e
abbrev S0 (δ : Type) : Type := ByteArray → Bool → Option δ
abbrev A_0 {δ : Type} (s : S0 δ) : Arm δ := ⟨[.d .str, .d .bool], [], fun x y => s x.1 x.2.1⟩
abbrev S1 (δ : Type) : Type := ByteArray → Option δ
abbrev A_1 {δ : Type} (s : S1 δ) : Arm δ := ⟨[.d .str], [], fun x y => s x.1⟩
abbrev S2 (δ : Type) : Type := (List Int) → Int → Int → Option δ
abbrev A_2 {δ : Type} (s : S2 δ) : Arm δ := ⟨[.d (.sl (.int .u8)), .d (.int .i64), .d (.int .i64)], [], fun x y => s x.1 x.2.1 x.2.2.1⟩
abbrev S3 (δ : Type) : Type := Int → Int → Bool → (List Int) → Int → Int → Option δ
abbrev A_3 {δ : Type} (s : S3 δ) : Arm δ := ⟨[.d (.int .i64), .d (.int .u8), .d .bool, .d (.sl (.int .u8)), .d (.int .i64), .d (.int .i64)], [], fun x y => s x.1 x.2.1 x.2.2.1 x.2.2.2.1 x.2.2.2.2.1 x.2.2.2.2.2.1⟩
abbrev S4 (δ : Type) : Type := Int → Bool → Bool → (List Int) → Int → Int → Option δ
abbrev A_4 {δ : Type} (s : S4 δ) : Arm δ := ⟨[.d (.int .i64), .d .bool, .d .bool, .d (.sl (.int .u8)), .d (.int .i64), .d (.int .i64)], [], fun x y => s x.1 x.2.1 x.2.2.1 x.2.2.2.1 x.2.2.2.2.1 x.2.2.2.2.2.1⟩
abbrev S5 (δ : Type) : Type := (List Int) → Int → Int → Bool → Option δ
abbrev A_5 {δ : Type} (s : S5 δ) : Arm δ := ⟨[.d (.sl (.int .u8)), .d (.int .i64), .d (.int .i64), .d .bool], [], fun x y => s x.1 x.2.1 x.2.2.1 x.2.2.2.1⟩
abbrev S6 (δ : Type) : Type := (List Int) → Int → Int → Option δ
abbrev A_6 {δ : Type} (s : S6 δ) : Arm δ := ⟨[.d (.sl (.int .u8)), .d (.int .i64), .d (.int .i64)], [], fun x y => s x.1 x.2.1 x.2.2.1⟩
def sg0 (s : S0 Int) : Seg := mkSg [1, 0, 1] [] [0, 13] [A_0 s] e
def sg1 (s : S1 Int) : Seg := mkSg [1, 1] [] [0] [A_1 s] e
def sg2 (s : S2 Int) : Seg := mkSg [4, 1, 0, 1, 1] [] [15, 16, 17] [A_2 s] e
def sg3 (s : S3 Int) : Seg := mkSg [1, 1, 4, 0, 1, 1, 5, 4, 1, 0, 1, 1] [] [3, 4, 5, 15, 16, 17] [A_3 s] e
def sg4 (s : S4 Int) : Seg := mkSg [1, 1, 1, 4, 0, 1, 1, 5, 4, 1, 0, 1, 1] [] [3, 5, 6, 15, 16, 17] [A_4 s] e
def sg5 (s : S5 Int) : Seg := mkSg [1, 1, 1, 1, 4, 0, 1, 1, 5, 4, 1, 0, 1, 1] [] [15, 16, 17, 47] [A_5 s] e
def sg6 (s : S6 Int) : Seg := mkSg [1, 1, 1, 5, 4, 1, 0, 1, 1] [] [15, 16, 17] [A_6 s] e
section
variable {β : Type} (s0 : S0 Int) (s1 : S1 Int) (s2 : S2 Int) (s3 : S3 Int) (s4 : S4 Int) (s5 : S5 Int) (s6 : S6 Int)
noncomputable abbrev env : FEnv := mkEnv prog f83 [] 0 [] [sg0 s0, sg1 s1, sg2 s2, sg3 s3, sg4 s4, sg5 s5, sg6 s6]
def c (ret : Int → Option β) (a0 : ByteArray) : Option β := (bif (a0.toList == (ByteArray.toList (ByteArray.mk (List.toArray [])))) then ((s0 a0 true).bind ret) else ((s0 a0 (decide ((a0.size : Int) > (16 : Int)))).bind ret))
def s0c (ret : Int → Option β) (x0 : ByteArray) (x1 : Bool) : Option β := (bif x1 then (ret ((8 : Int))) else ((s1 x0).bind ret))
def s1c (ret : Int → Option β) (x0 : ByteArray) : Option β := ((s2 (List.map (fun b => ((UInt8.toNat b) : Int)) (Array.toList (ByteArray.data x0))) ((List.length (List.map (fun b => ((UInt8.toNat b) : Int)) (Array.toList (ByteArray.data x0)))) : Int) (0 : Int)).bind ret)
def s2c (ret : Int → Option β) (x0 : List Int) (x1 x2 : Int) : Option β := (bif (decide (x2 < x1)) then (bif ((decide ((0 : Int) ≤ x2)) && (decide (x2 < (x0.length : Int)))) then (bif (decide ((elem (Ty.int IntKind.u8) x0 x2) ≥ (97 : Int))) then ((s3 x2 (elem (Ty.int IntKind.u8) x0 x2) (decide ((elem (Ty.int IntKind.u8) x0 x2) ≤ (122 : Int))) x0 x1 x2).bind ret) else ((s3 x2 (elem (Ty.int IntKind.u8) x0 x2) false x0 x1 x2).bind ret)) else none) else (ret ((0 : Int))))
def s3c (ret : Int → Option β) (x0 x1 : Int) (x2 : Bool) (x3 : List Int) (x4 x5 : Int) : Option β := (bif (decide (x1 ≥ (48 : Int))) then (bif (decide (x1 ≤ (57 : Int))) then ((s4 x0 x2 true x3 x4 x5).bind ret) else ((s4 x0 x2 (x1 == (95 : Int)) x3 x4 x5).bind ret)) else ((s4 x0 x2 (x1 == (95 : Int)) x3 x4 x5).bind ret))
def s4c (ret : Int → Option β) (x0 : Int) (x1 x2 : Bool) (x3 : List Int) (x4 x5 : Int) : Option β := (bif (!x1) then (bif (x0 == (0 : Int)) then ((s5 x3 x4 x5 true).bind ret) else ((s5 x3 x4 x5 (!x2)).bind ret)) else ((s5 x3 x4 x5 false).bind ret))
def s5c (ret : Int → Option β) (x0 : List Int) (x1 x2 : Int) (x3 : Bool) : Option β := (bif x3 then (ret ((8 : Int))) else ((s6 x0 x1 x2).bind ret))
def s6c (ret : Int → Option β) (x0 : List Int) (x1 x2 : Int) : Option β := ((s2 x0 x1 (IntKind.wrap .i64 (x2 + (1 : Int)))).bind ret)
variable {s0} {s1} {s2} {s3} {s4} {s5} {s6}
theorem ev : EvA (env s0 s1 s2 s3 s4 s5 s6) [] [0] e (A (c s0 some)) := fun x y => Eq.trans (b := (A (c s0 fun r => some (e r))).G x y) (by kernel_rfl) (by simp only [A, c, bo, so, oa, os, on, ofs])
theorem s0_ev : EvA (env s0 s1 s2 s3 s4 s5 s6) [1, 0, 1] [0, 13] e (A_0 (s0c s1 some)) := fun x y => Eq.trans (b := (A_0 (s0c s1 fun r => some (e r))).G x y) (by kernel_rfl) (by simp only [A_0, s0c, bo, so, oa, os, on, ofs])
theorem s1_ev : EvA (env s0 s1 s2 s3 s4 s5 s6) [1, 1] [0] e (A_1 (s1c s2 some)) := fun x y => Eq.trans (b := (A_1 (s1c s2 fun r => some (e r))).G x y) (by kernel_rfl) (by simp only [A_1, s1c, bo, so, oa, os, on, ofs])
theorem s2_ev : EvA (env s0 s1 s2 s3 s4 s5 s6) [4, 1, 0, 1, 1] [15, 16, 17] e (A_2 (s2c s3 some)) := fun x y => Eq.trans (b := (A_2 (s2c s3 fun r => some (e r))).G x y) (by kernel_rfl) (by simp only [A_2, s2c, bo, so, oa, os, on, ofs])
theorem s3_ev : EvA (env s0 s1 s2 s3 s4 s5 s6) [1, 1, 4, 0, 1, 1, 5, 4, 1, 0, 1, 1] [3, 4, 5, 15, 16, 17] e (A_3 (s3c s4 some)) := fun x y => Eq.trans (b := (A_3 (s3c s4 fun r => some (e r))).G x y) (by kernel_rfl) (by simp only [A_3, s3c, bo, so, oa, os, on, ofs])
theorem s4_ev : EvA (env s0 s1 s2 s3 s4 s5 s6) [1, 1, 1, 4, 0, 1, 1, 5, 4, 1, 0, 1, 1] [3, 5, 6, 15, 16, 17] e (A_4 (s4c s5 some)) := fun x y => Eq.trans (b := (A_4 (s4c s5 fun r => some (e r))).G x y) (by kernel_rfl) (by simp only [A_4, s4c, bo, so, oa, os, on, ofs])
theorem s5_ev : EvA (env s0 s1 s2 s3 s4 s5 s6) [1, 1, 1, 1, 4, 0, 1, 1, 5, 4, 1, 0, 1, 1] [15, 16, 17, 47] e (A_5 (s5c s6 some)) := fun x y => Eq.trans (b := (A_5 (s5c s6 fun r => some (e r))).G x y) (by kernel_rfl) (by simp only [A_5, s5c, bo, so, oa, os, on, ofs])
theorem s6_ev : EvA (env s0 s1 s2 s3 s4 s5 s6) [1, 1, 1, 5, 4, 1, 0, 1, 1] [15, 16, 17] e (A_6 (s6c s2 some)) := fun x y => Eq.trans (b := (A_6 (s6c s2 fun r => some (e r))).G x y) (by kernel_rfl) (by simp only [A_6, s6c, bo, so, oa, os, on, ofs])
end
mutual
def s0 : Nat → S0 Int
 | 0, _, _ => none
 | k + 1, x0, x1 => s0c (s1 k) some x0 x1
def s1 : Nat → S1 Int
 | 0, _ => none
 | k + 1, x0 => s1c (s2 k) some x0
def s2 : Nat → S2 Int
 | 0, _, _, _ => none
 | k + 1, x0, x1, x2 => s2c (s3 k) some x0 x1 x2
def s3 : Nat → S3 Int
 | 0, _, _, _, _, _, _ => none
 | k + 1, x0, x1, x2, x3, x4, x5 => s3c (s4 k) some x0 x1 x2 x3 x4 x5
def s4 : Nat → S4 Int
 | 0, _, _, _, _, _, _ => none
 | k + 1, x0, x1, x2, x3, x4, x5 => s4c (s5 k) some x0 x1 x2 x3 x4 x5
def s5 : Nat → S5 Int
 | 0, _, _, _, _ => none
 | k + 1, x0, x1, x2, x3 => s5c (s6 k) some x0 x1 x2 x3
def s6 : Nat → S6 Int
 | 0, _, _, _ => none
 | k + 1, x0, x1, x2 => s6c (s2 k) some x0 x1 x2
end
def f (k : Nat) (a0 : ByteArray) : Option Int := c (s0 k) some a0
noncomputable abbrev E (k : Nat) : FEnv := env  (s0 k) (s1 k) (s2 k) (s3 k) (s4 k) (s5 k) (s6 k)
theorem hE (k : Nat) : EnvOK (E k).toEnv := ctsOK L0
theorem sk : ∀ k, ∀ s ∈ [sg0 (s0 k), sg1 (s1 k), sg2 (s2 k), sg3 (s3 k), sg4 (s4 k), sg5 (s5 k), sg6 (s6 k)], SegB prog f83 0 s
 | 0 => (Lc (sn (Lc (fun _ _ => rfl) L0)) (Lc (sn (Lc (fun _ _ => rfl) L0)) (Lc (sn (Lc (fun _ _ => rfl) L0)) (Lc (sn (Lc (fun _ _ => rfl) L0)) (Lc (sn (Lc (fun _ _ => rfl) L0)) (Lc (sn (Lc (fun _ _ => rfl) L0)) (Lc (sn (Lc (fun _ _ => rfl) L0)) L0)))))))
 | k + 1 => (Lc (sg_ok (hE k) (sk k) (Lc s0_ev L0)) (Lc (sg_ok (hE k) (sk k) (Lc s1_ev L0)) (Lc (sg_ok (hE k) (sk k) (Lc s2_ev L0)) (Lc (sg_ok (hE k) (sk k) (Lc s3_ev L0)) (Lc (sg_ok (hE k) (sk k) (Lc s4_ev L0)) (Lc (sg_ok (hE k) (sk k) (Lc s5_ev L0)) (Lc (sg_ok (hE k) (sk k) (Lc s6_ev L0)) L0)))))))
theorem ok (k : Nat) : CtOK prog 83 (ct (f k)) := fn_ok func83 rfl (by decide) (hE k) (sk k) (Lc ev L0)
end names_Check
namespace sw_name
abbrev R : Type := Int × (List ByteArray)
def e (r : R) : Res := ⟨.tup [], [some (.box [(.own 1), (.d (.int .i64) r.1)]), some (.own .str false r.2)]⟩
abbrev T (δ : Type) : Type := (List ByteArray) → Int → (List ByteArray) → Option δ
abbrev A {δ : Type} (g : T δ) : Arm δ := ⟨[.k (.ptr 0 0), .d (.sl .str)], [.box [.c (.own 1), .g (.int .i64)], .own .str false], fun x y => g x.2.1 y.1.2.1 y.2.1⟩
abbrev G : Type := T R
def ct (g : G) : Ct := mkCt 1 [] [A g] e
abbrev S0 (δ : Type) : Type := (List ByteArray) → Int → Int → Int → (List ByteArray) → Option δ
abbrev A_0 {δ : Type} (s : S0 δ) : Arm δ := ⟨[.k (.ptr 0 0), .d (.sl .str), .d (.int .i64), .d (.int .i64)], [.box [.c (.own 1), .g (.int .i64)], .own .str false], fun x y => s x.2.1 x.2.2.1 x.2.2.2.1 y.1.2.1 y.2.1⟩
def sg0 (s : S0 R) : Seg := mkSg [4, 1] [] [0, 6, 7, 8] [A_0 s] e
section
variable {β : Type} (g27_0 : sw_word.G0) (g27_1 : sw_word.G1) (g30_0 : sw_fail.G0) (g30_1 : sw_fail.G1) (g83 : names_Check.G) (s0 : S0 R)
noncomputable abbrev env : FEnv := mkEnv prog f56 [(27, sw_word.ct g27_0 g27_1), (30, sw_fail.ct g30_0 g30_1), (83, names_Check.ct g83)] 1 [] [sg0 s0]
def c (ret : R → Option β) (a0 : List ByteArray) (a1 : Int) (a2 : List ByteArray) : Option β := ((s0 a0 (a0.length : Int) (0 : Int) a1 a2).bind ret)
def s0c (ret : R → Option β) (x0 : List ByteArray) (x1 x2 x3 : Int) (x4 : List ByteArray) : Option β := (bif (decide (x2 < x1)) then (bif ((decide ((0 : Int) ≤ x2)) && (decide (x2 < (x0.length : Int)))) then ((g83 (elem Ty.str x0 x2)).bind fun r0 => ((g30_0 r0 x3 x4).bind fun r1 => (Sum.elim (fun r2 => ((g27_0 [(elem Ty.str x0 x2)] r2.1 r2.2).bind fun r3 => ((s0 x0 x1 (IntKind.wrap .i64 (x2 + (1 : Int))) r3.1 r3.2).bind ret))) (fun r4 => ((g27_1 [(elem Ty.str x0 x2)] r4).bind fun r5 => ((s0 x0 x1 (IntKind.wrap .i64 (x2 + (1 : Int))) r5.1 r5.2).bind ret))) r1))) else none) else (ret (x3, x4)))
variable {g27_0} {g27_1} {g30_0} {g30_1} {g83} {s0}
theorem ev : EvA (env g27_0 g27_1 g30_0 g30_1 g83 s0) [] [0, 1] e (A (c s0 some)) := fun x y => Eq.trans (b := (A (c s0 fun r => some (e r))).G x y) (by kernel_rfl) (by simp only [A, c, bo, so, oa, os, on, ofs])
theorem s0_ev : EvA (env g27_0 g27_1 g30_0 g30_1 g83 s0) [4, 1] [0, 6, 7, 8] e (A_0 (s0c g27_0 g27_1 g30_0 g83 s0 some)) := fun x y => Eq.trans (b := (A_0 (s0c g27_0 g27_1 g30_0 g83 s0 fun r => some (e r))).G x y) (by kernel_rfl) (by simp only [A_0, s0c, bo, so, oa, os, on, ofs])
end
def s0 : Nat → S0 R
 | 0, _, _, _, _, _ => none
 | k + 1, x0, x1, x2, x3, x4 => s0c (sw_word.f0 k) (sw_word.f1 k) (sw_fail.f0 k) (names_Check.f k) (s0 k) some x0 x1 x2 x3 x4
def f (k : Nat) (a0 : List ByteArray) (a1 : Int) (a2 : List ByteArray) : Option R := c (s0 k) some a0 a1 a2
noncomputable abbrev E (k : Nat) : FEnv := env (sw_word.f0 k) (sw_word.f1 k) (sw_fail.f0 k) (sw_fail.f1 k) (names_Check.f k) (s0 k)
theorem hE (k : Nat) : EnvOK (E k).toEnv := ctsOK (Lc (sw_word.ok k) (Lc (sw_fail.ok k) (Lc (names_Check.ok k) L0)))
theorem sk : ∀ k, ∀ s ∈ [sg0 (s0 k)], SegB prog f56 1 s
 | 0 => (Lc (sn (Lc (fun _ _ => rfl) L0)) L0)
 | k + 1 => (Lc (sg_ok (hE k) (sk k) (Lc s0_ev L0)) L0)
theorem ok (k : Nat) : CtOK prog 56 (ct (f k)) := fn_ok func56 rfl (by decide) (hE k) (sk k) (Lc ev L0)
end sw_name
namespace values_word
def e (r : ByteArray) : Res := ⟨.v (.one (.d .str r)), []⟩
abbrev T (δ : Type) : Type := Int → Option δ
abbrev A {δ : Type} (g : T δ) : Arm δ := ⟨[.d (.int .i64)], [], fun x y => g x.1⟩
abbrev G : Type := T ByteArray
def ct (g : G) : Ct := mkCt 0 [] [A g] e
section
variable {β : Type} 
noncomputable abbrev env : FEnv := mkEnv prog f108 [] 0 [] []
def c (ret : ByteArray → Option β) (a0 : Int) : Option β := (bif ((decide ((0 : Int) ≤ a0)) && (decide (a0 < (6 : Int)))) then (ret ((bif (decide (a0 = (0 : Int))) then (ByteArray.mk (List.toArray [110, 117, 108, 108])) else (bif (decide (a0 = (1 : Int))) then (ByteArray.mk (List.toArray [98, 111, 111, 108])) else (bif (decide (a0 = (2 : Int))) then (ByteArray.mk (List.toArray [105, 110, 116])) else (bif (decide (a0 = (3 : Int))) then (ByteArray.mk (List.toArray [114, 101, 97, 108])) else (bif (decide (a0 = (4 : Int))) then (ByteArray.mk (List.toArray [98, 121, 116, 101, 115])) else (ByteArray.mk (List.toArray [116, 101, 120, 116]))))))))) else none)
theorem ev : EvA (env) [] [0] e (A (c some)) := fun x y => Eq.trans (b := (A (c fun r => some (e r))).G x y) (by kernel_rfl) (by simp only [A, c, bo, so, oa, os, on, ofs])
end
def f (k : Nat) (a0 : Int) : Option ByteArray := c  some a0
noncomputable abbrev E (k : Nat) : FEnv := env  
theorem hE (k : Nat) : EnvOK (E k).toEnv := ctsOK L0
theorem ok (k : Nat) : CtOK prog 108 (ct (f k)) := fn_ok func108 rfl (by decide) (hE k) L0 (Lc ev L0)
end values_word
namespace values_Name
def e (r : ByteArray) : Res := ⟨.v (.one (.d .str r)), []⟩
abbrev T (δ : Type) : Type := Int → Option δ
abbrev A {δ : Type} (g : T δ) : Arm δ := ⟨[.d (.int .i64)], [], fun x y => g x.1⟩
abbrev G : Type := T ByteArray
def ct (g : G) : Ct := mkCt 0 [] [A g] e
section
variable {β : Type} (g108 : values_word.G)
noncomputable abbrev env : FEnv := mkEnv prog f88 [(108, values_word.ct g108)] 0 [] []
def c (ret : ByteArray → Option β) (a0 : Int) : Option β := (bif (decide (a0 < (0 : Int))) then (ret ((ByteArray.mk (List.toArray [])))) else (bif (decide (a0 ≥ (6 : Int))) then (ret ((ByteArray.mk (List.toArray [])))) else ((g108 a0).bind fun r0 => (ret (r0)))))
variable {g108}
theorem ev : EvA (env g108) [] [0] e (A (c g108 some)) := fun x y => Eq.trans (b := (A (c g108 fun r => some (e r))).G x y) (by kernel_rfl) (by simp only [A, c, bo, so, oa, os, on, ofs])
end
def f (k : Nat) (a0 : Int) : Option ByteArray := c (values_word.f k) some a0
noncomputable abbrev E (k : Nat) : FEnv := env (values_word.f k) 
theorem hE (k : Nat) : EnvOK (E k).toEnv := ctsOK (Lc (values_word.ok k) L0)
theorem ok (k : Nat) : CtOK prog 88 (ct (f k)) := fn_ok func88 rfl (by decide) (hE k) L0 (Lc ev L0)
end values_Name
namespace sw_kind
abbrev R : Type := Int × (List ByteArray)
def e (r : R) : Res := ⟨.tup [], [some (.box [(.own 1), (.d (.int .i64) r.1)]), some (.own .str false r.2)]⟩
abbrev T (δ : Type) : Type := Int → Int → (List ByteArray) → Option δ
abbrev A {δ : Type} (g : T δ) : Arm δ := ⟨[.k (.ptr 0 0), .d (.int .i64)], [.box [.c (.own 1), .g (.int .i64)], .own .str false], fun x y => g x.2.1 y.1.2.1 y.2.1⟩
abbrev G : Type := T R
def ct (g : G) : Ct := mkCt 1 [] [A g] e
section
variable {β : Type} (g27_0 : sw_word.G0) (g27_1 : sw_word.G1) (g30_0 : sw_fail.G0) (g30_1 : sw_fail.G1) (g88 : values_Name.G)
noncomputable abbrev env : FEnv := mkEnv prog f65 [(27, sw_word.ct g27_0 g27_1), (30, sw_fail.ct g30_0 g30_1), (88, values_Name.ct g88)] 1 [] []
def c (ret : R → Option β) (a0 a1 : Int) (a2 : List ByteArray) : Option β := (bif (decide (a0 < (1 : Int))) then ((g30_0 (5 : Int) a1 a2).bind fun r0 => (Sum.elim (fun r1 => ((g88 a0).bind fun r2 => ((g27_0 [r2] r1.1 r1.2).bind fun r3 => (ret (r3.1, r3.2))))) (fun r4 => ((g88 a0).bind fun r5 => ((g27_1 [r5] r4).bind fun r6 => (ret (r6.1, r6.2))))) r0)) else (bif (decide (a0 > (5 : Int))) then ((g30_0 (5 : Int) a1 a2).bind fun r7 => (Sum.elim (fun r8 => ((g88 a0).bind fun r9 => ((g27_0 [r9] r8.1 r8.2).bind fun r10 => (ret (r10.1, r10.2))))) (fun r11 => ((g88 a0).bind fun r12 => ((g27_1 [r12] r11).bind fun r13 => (ret (r13.1, r13.2))))) r7)) else ((g88 a0).bind fun r14 => ((g27_0 [r14] a1 a2).bind fun r15 => (ret (r15.1, r15.2))))))
variable {g27_0} {g27_1} {g30_0} {g30_1} {g88}
theorem ev : EvA (env g27_0 g27_1 g30_0 g30_1 g88) [] [0, 1] e (A (c g27_0 g27_1 g30_0 g88 some)) := fun x y => Eq.trans (b := (A (c g27_0 g27_1 g30_0 g88 fun r => some (e r))).G x y) (by kernel_rfl) (by simp only [A, c, bo, so, oa, os, on, ofs])
end
def f (k : Nat) (a0 a1 : Int) (a2 : List ByteArray) : Option R := c (sw_word.f0 k) (sw_word.f1 k) (sw_fail.f0 k) (values_Name.f k) some a0 a1 a2
noncomputable abbrev E (k : Nat) : FEnv := env (sw_word.f0 k) (sw_word.f1 k) (sw_fail.f0 k) (sw_fail.f1 k) (values_Name.f k) 
theorem hE (k : Nat) : EnvOK (E k).toEnv := ctsOK (Lc (sw_word.ok k) (Lc (sw_fail.ok k) (Lc (values_Name.ok k) L0)))
theorem ok (k : Nat) : CtOK prog 65 (ct (f k)) := fn_ok func65 rfl (by decide) (hE k) L0 (Lc ev L0)
end sw_kind
namespace values_only
abbrev R : Type := Int × Int × Int × ByteArray
def e (r : R) : Res := ⟨.v (.agg [(.d (.int .i64) r.1), (.d (.int .i64) r.2.1), (.d (.int .u64) r.2.2.1), (.d .str r.2.2.2)]), []⟩
abbrev T (δ : Type) : Type := Int → Int → Int → ByteArray → Option δ
abbrev A {δ : Type} (g : T δ) : Arm δ := ⟨[.s T_api_Value], [], fun x y => g x.1.1.1 x.1.1.2.1 x.1.1.2.2.1 x.1.1.2.2.2.1⟩
abbrev G : Type := T R
def ct (g : G) : Ct := mkCt 0 [] [A g] e
abbrev S0 (δ : Type) : Type := Int → Bool → Int → Int → Int → ByteArray → Int → Int → Int → ByteArray → Int → Int → Int → ByteArray → Option δ
abbrev A_0 {δ : Type} (s : S0 δ) : Arm δ := ⟨[.k (.ptr 0 0), .k (.ptr 1 0), .k (.ptr 2 0), .d (.int .i64), .d .bool], [.box [.g T_api_Value], .box [.g T_api_Value], .box [.g T_api_Value]], fun x y => s x.2.2.2.1 x.2.2.2.2.1 y.1.1.1 y.1.1.2.1 y.1.1.2.2.1 y.1.1.2.2.2.1 y.2.1.1.1 y.2.1.1.2.1 y.2.1.1.2.2.1 y.2.1.1.2.2.2.1 y.2.2.1.1.1 y.2.2.1.1.2.1 y.2.2.1.1.2.2.1 y.2.2.1.1.2.2.2.1⟩
def sg0 (s : S0 R) : Seg := mkSg [1, 4, 1, 0, 1, 1] [] [1, 2, 3, 8, 9] [A_0 s] e
section
variable {β : Type} (s0 : S0 R)
noncomputable abbrev env : FEnv := mkEnv prog f132 [] 0 [] [sg0 s0]
def c (ret : R → Option β) (a0 a1 a2 : Int) (a3 : ByteArray) : Option β := (bif (a0 == (1 : Int)) then ((s0 a0 (a0 == (1 : Int)) a0 a1 a2 a3 (0 : Int) (0 : Int) (0 : Int) (ByteArray.mk (List.toArray [])) a0 (0 : Int) (0 : Int) (ByteArray.mk (List.toArray []))).bind ret) else ((s0 a0 (a0 == (2 : Int)) a0 a1 a2 a3 (0 : Int) (0 : Int) (0 : Int) (ByteArray.mk (List.toArray [])) a0 (0 : Int) (0 : Int) (ByteArray.mk (List.toArray []))).bind ret))
def s0c (ret : R → Option β) (x0 : Int) (x1 : Bool) (x2 x3 x4 : Int) (x5 : ByteArray) (x6 x7 x8 : Int) (x9 : ByteArray) (x10 x11 x12 : Int) (x13 : ByteArray) : Option β := (bif x1 then (ret (x10, x3, x12, x13)) else (bif (x0 == (3 : Int)) then (ret (x10, x11, x4, x13)) else (bif (x0 == (4 : Int)) then (bif (x0 == (4 : Int)) then (ret (x10, x11, x12, x5)) else (ret (x10, x11, x12, x13))) else (bif (x0 == (5 : Int)) then (ret (x10, x11, x12, x5)) else (ret (x10, x11, x12, x13))))))
variable {s0}
theorem ev : EvA (env s0) [] [0] e (A (c s0 some)) := fun x y => Eq.trans (b := (A (c s0 fun r => some (e r))).G x y) (by kernel_rfl) (by simp only [A, c, bo, so, oa, os, on, ofs])
theorem s0_ev : EvA (env s0) [1, 4, 1, 0, 1, 1] [1, 2, 3, 8, 9] e (A_0 (s0c some)) := fun x y => Eq.trans (b := (A_0 (s0c fun r => some (e r))).G x y) (by kernel_rfl) (by simp only [A_0, s0c, bo, so, oa, os, on, ofs])
end
def s0 : Nat → S0 R
 | 0, _, _, _, _, _, _, _, _, _, _, _, _, _, _ => none
 | k + 1, x0, x1, x2, x3, x4, x5, x6, x7, x8, x9, x10, x11, x12, x13 => s0c  some x0 x1 x2 x3 x4 x5 x6 x7 x8 x9 x10 x11 x12 x13
def f (k : Nat) (a0 a1 a2 : Int) (a3 : ByteArray) : Option R := c (s0 k) some a0 a1 a2 a3
noncomputable abbrev E (k : Nat) : FEnv := env  (s0 k)
theorem hE (k : Nat) : EnvOK (E k).toEnv := ctsOK L0
theorem sk : ∀ k, ∀ s ∈ [sg0 (s0 k)], SegB prog f132 0 s
 | 0 => (Lc (sn (Lc (fun _ _ => rfl) L0)) L0)
 | k + 1 => (Lc (sg_ok (hE k) (sk k) (Lc s0_ev L0)) L0)
theorem ok (k : Nat) : CtOK prog 132 (ct (f k)) := fn_ok func132 rfl (by decide) (hE k) (sk k) (Lc ev L0)
end values_only
end Go.Proofs.YtimadphjdkjgaaaGreatDoor.Aev
