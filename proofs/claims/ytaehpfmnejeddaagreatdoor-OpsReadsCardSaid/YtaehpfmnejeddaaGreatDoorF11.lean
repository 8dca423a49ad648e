import Derived.Test.YtaehpfmnejeddaaGreatDoorTys
import Derived.Test.YtaehpfmnejeddaaGreatDoorProg
import Derived.Laws.Externs
import Derived.Lib.Bytealg
import Derived.Test.YtaehpfmnejeddaaGreatDoorF6
import Derived.Test.YtaehpfmnejeddaaGreatDoorF7
import Derived.Test.YtaehpfmnejeddaaGreatDoorF9
import Derived.Test.YtaehpfmnejeddaaGreatDoorF10
/- By a program of this session (AEV): functions of the program as plain functions, and that the machine does what they say. -/
namespace Go.Proofs.YtaehpfmnejeddaaGreatDoor.Aev
set_option linter.unusedVariables false
set_option linter.unusedSimpArgs false
set_option maxRecDepth 100000
set_option maxHeartbeats 4000000
open Go Go.Proofs.Tryz
namespace transomref14_Put
abbrev R : Type := ByteArray × Int
def e (r : R) : Res := ⟨.tup [(.one (.d .str r.1)), (.one (.d (.int .i64) r.2))], []⟩
abbrev T (δ : Type) : Type := D_api_Op → Option δ
abbrev A {δ : Type} (g : T δ) : Arm δ := ⟨[.s T_api_Op], [], fun x y => g x.1.1⟩
abbrev G : Type := T R
def ct (g : G) : Ct := mkCt 0 [] [A g] e
abbrev S0 (δ : Type) : Type := Bool → D_api_Op → Option δ
abbrev A_0 {δ : Type} (s : S0 δ) : Arm δ := ⟨[.k (.ptr 0 0), .d .bool], [.box [.g T_api_Op]], fun x y => s x.2.1 y.1.1⟩
abbrev S1 (δ : Type) : Type := D_api_Op → Option δ
abbrev A_1 {δ : Type} (s : S1 δ) : Arm δ := ⟨[.k (.ptr 0 0)], [.box [.g T_api_Op]], fun x y => s y.1.1⟩
abbrev S2 (δ : Type) : Type := ByteArray → Int → D_api_Op → (List (List D_api_Value)) → Option δ
abbrev A_2 {δ : Type} (s : S2 δ) : Arm δ := ⟨[.k (.ptr 0 0), .d .str, .k (.own 1), .d (.int .i64)], [.box [.g T_api_Op], .own (.sl T_api_Value) true], fun x y => s x.2.1 x.2.2.2.1 y.1.1 y.2.1⟩
def sg0 (s : S0 R) : Seg := mkSg [1, 0, 1] [] [1, 28] [A_0 s] e
def sg1 (s : S1 R) : Seg := mkSg [1, 1] [] [1] [A_1 s] e
def sg2 (s : S2 R) : Seg := mkSg [4, 1, 0, 1, 1, 1, 1, 1] [] [1, 4, 5, 6] [A_2 s] e
section
variable {β : Type} (g11 : transomref14_PutChange.G) (g37 : transomref03_Uint.G) (g38 : transomref03_Text.G) (g53 : transomref06_Put.G) (s0 : S0 R) (s1 : S1 R) (s2 : S2 R)
noncomputable abbrev env : FEnv := mkEnv prog f17 [(11, transomref14_PutChange.ct g11), (37, transomref03_Uint.ct g37), (38, transomref03_Text.ct g38), (53, transomref06_Put.ct g53)] 0 [] [sg0 s0, sg1 s1, sg2 s2]
def c (ret : R → Option β) (a0 : D_api_Op) : Option β := (bif (decide (a0.1 < (1 : Int))) then ((s0 true a0).bind ret) else (bif (decide (a0.1 > (9 : Int))) then ((s0 true a0).bind ret) else (bif (decide (a0.2.2.2.2.2.1 < (0 : Int))) then ((s0 true a0).bind ret) else ((s0 (decide (a0.2.2.2.2.2.1 > (64 : Int))) a0).bind ret))))
def s0c (ret : R → Option β) (x0 : Bool) (x1 : D_api_Op) : Option β := (bif x0 then (ret ((ByteArray.mk (List.toArray [])), (1 : Int))) else ((s1 x1).bind ret))
def s1c (ret : R → Option β) (x0 : D_api_Op) : Option β := (bif (decide ((x0.2.1.size : Int) > (16 : Int))) then (ret ((ByteArray.mk (List.toArray [])), (8 : Int))) else ((g37 (IntKind.wrap .u64 x0.1)).bind fun r0 => ((g38 x0.2.1).bind fun r1 => (bif ((decide (r0.size ≤ (4611686018427387903 : Nat))) && (decide (r1.size ≤ (4611686018427387903 : Nat)))) then ((s2 (r0 ++ r1) (0 : Int) x0 [x0.2.2.1, x0.2.2.2.1, x0.2.2.2.2.1]).bind ret) else none))))
def s2c (ret : R → Option β) (x0 : ByteArray) (x1 : Int) (x2 : D_api_Op) (x3 : List (List D_api_Value)) : Option β := (bif (decide (x1 < (x3.length : Int))) then (bif ((decide ((0 : Int) ≤ x1)) && (decide (x1 < (x3.length : Int)))) then ((g53 (elem (Ty.sl T_api_Value) x3 x1)).bind fun r0 => (bif (r0.2 != (0 : Int)) then (ret ((ByteArray.mk (List.toArray [])), r0.2)) else ((g38 r0.1).bind fun r1 => (bif ((decide (x0.size ≤ (4611686018427387903 : Nat))) && (decide (r1.size ≤ (4611686018427387903 : Nat)))) then ((s2 (x0 ++ r1) (IntKind.wrap .i64 (x1 + (1 : Int))) x2 x3).bind ret) else none)))) else none) else ((g37 (IntKind.wrap .u64 x2.2.2.2.2.2.1)).bind fun r2 => (bif ((decide (x0.size ≤ (4611686018427387903 : Nat))) && (decide (r2.size ≤ (4611686018427387903 : Nat)))) then (bif (x2.1 != (6 : Int)) then (ret ((x0 ++ r2), (0 : Int))) else ((g11 x2.2.2.2.2.2.2.1).bind fun r3 => (bif (r3.2 != (0 : Int)) then (ret ((ByteArray.mk (List.toArray [])), r3.2)) else (bif ((decide ((ByteArray.size (x0 ++ r2)) ≤ (4611686018427387903 : Nat))) && (decide (r3.1.size ≤ (4611686018427387903 : Nat)))) then (ret (((x0 ++ r2) ++ r3.1), (0 : Int))) else none)))) else none)))
variable {g11} {g37} {g38} {g53} {s0} {s1} {s2}
theorem ev : EvA (env g11 g37 g38 g53 s0 s1 s2) [] [0] e (A (c s0 some)) := fun x y => Eq.trans (b := (A (c s0 fun r => some (e r))).G x y) (by kernel_rfl) (by simp only [A, c, bo, sum_bind, oa, os, on, ofs])
theorem s0_ev : EvA (env g11 g37 g38 g53 s0 s1 s2) [1, 0, 1] [1, 28] e (A_0 (s0c s1 some)) := fun x y => Eq.trans (b := (A_0 (s0c s1 fun r => some (e r))).G x y) (by kernel_rfl) (by simp only [A_0, s0c, bo, sum_bind, oa, os, on, ofs])
theorem s1_ev : EvA (env g11 g37 g38 g53 s0 s1 s2) [1, 1] [1] e (A_1 (s1c g37 g38 s2 some)) := fun x y => Eq.trans (b := (A_1 (s1c g37 g38 s2 fun r => some (e r))).G x y) (by kernel_rfl) (by simp only [A_1, s1c, bo, sum_bind, oa, os, on, ofs])
theorem s2_ev : EvA (env g11 g37 g38 g53 s0 s1 s2) [4, 1, 0, 1, 1, 1, 1, 1] [1, 4, 5, 6] e (A_2 (s2c g11 g37 g38 g53 s2 some)) := fun x y => Eq.trans (b := (A_2 (s2c g11 g37 g38 g53 s2 fun r => some (e r))).G x y) (by kernel_rfl) (by simp only [A_2, s2c, bo, sum_bind, oa, os, on, ofs])
end
mutual
def s0 : Nat → S0 R
 | 0, _, _ => none
 | k + 1, x0, x1 => s0c (s1 k) some x0 x1
def s1 : Nat → S1 R
 | 0, _ => none
 | k + 1, x0 => s1c (transomref03_Uint.f k) (transomref03_Text.f k) (s2 k) some x0
def s2 : Nat → S2 R
 | 0, _, _, _, _ => none
 | k + 1, x0, x1, x2, x3 => s2c (transomref14_PutChange.f k) (transomref03_Uint.f k) (transomref03_Text.f k) (transomref06_Put.f k) (s2 k) some x0 x1 x2 x3
end
def f (k : Nat) (a0 : D_api_Op) : Option R := c (s0 k) some a0
noncomputable abbrev E (k : Nat) : FEnv := env (transomref14_PutChange.f k) (transomref03_Uint.f k) (transomref03_Text.f k) (transomref06_Put.f k) (s0 k) (s1 k) (s2 k)
theorem hE (k : Nat) : EnvOK (E k).toEnv := ctsOK (Lc (transomref14_PutChange.ok k) (Lc (transomref03_Uint.ok k) (Lc (transomref03_Text.ok k) (Lc (transomref06_Put.ok k) L0))))
theorem sk : ∀ k, ∀ s ∈ [sg0 (s0 k), sg1 (s1 k), sg2 (s2 k)], SegB prog f17 0 s
 | 0 => (Lc (sn (Lc (fun _ _ => rfl) L0)) (Lc (sn (Lc (fun _ _ => rfl) L0)) (Lc (sn (Lc (fun _ _ => rfl) L0)) L0)))
 | k + 1 => (Lc (sg_ok (hE k) (sk k) (Lc s0_ev L0)) (Lc (sg_ok (hE k) (sk k) (Lc s1_ev L0)) (Lc (sg_ok (hE k) (sk k) (Lc s2_ev L0)) L0)))
theorem ok (k : Nat) : CtOK prog 17 (ct (f k)) := fn_ok func17 rfl (by decide) (hE k) (sk k) (Lc ev L0)
end transomref14_Put
namespace transomref03_ReadInt
abbrev R : Type := Int × ByteArray × Int
def e (r : R) : Res := ⟨.tup [(.one (.d (.int .i64) r.1)), (.one (.d .str r.2.1)), (.one (.d (.int .i64) r.2.2))], []⟩
abbrev T (δ : Type) : Type := ByteArray → Option δ
abbrev A {δ : Type} (g : T δ) : Arm δ := ⟨[.d .str], [], fun x y => g x.1⟩
abbrev G : Type := T R
def ct (g : G) : Ct := mkCt 0 [] [A g] e
section
variable {β : Type} (g69 : transomref03_ReadUint.G)
noncomputable abbrev env : FEnv := mkEnv prog f133 [(69, transomref03_ReadUint.ct g69)] 0 [] []
def c (ret : R → Option β) (a0 : ByteArray) : Option β := ((g69 a0).bind fun r0 => (bif (r0.2.2 != (0 : Int)) then (ret ((0 : Int), (ByteArray.mk (List.toArray [])), r0.2.2)) else (bif ((Int.tmod r0.1 (2 : Int)) == (1 : Int)) then (ret ((IntKind.wrap .i64 ((IntKind.wrap .i64 ((0 : Int) - (IntKind.wrap .i64 (IntKind.wrap .u64 (Int.tdiv r0.1 (2 : Int)))))) - (1 : Int))), r0.2.1, (0 : Int))) else (ret ((IntKind.wrap .i64 (IntKind.wrap .u64 (Int.tdiv r0.1 (2 : Int)))), r0.2.1, (0 : Int))))))
variable {g69}
theorem ev : EvA (env g69) [] [0] e (A (c g69 some)) := fun x y => Eq.trans (b := (A (c g69 fun r => some (e r))).G x y) (by kernel_rfl) (by simp only [A, c, bo, sum_bind, oa, os, on, ofs])
end
def f (k : Nat) (a0 : ByteArray) : Option R := c (transomref03_ReadUint.f k) some a0
noncomputable abbrev E (k : Nat) : FEnv := env (transomref03_ReadUint.f k) 
theorem hE (k : Nat) : EnvOK (E k).toEnv := ctsOK (Lc (transomref03_ReadUint.ok k) L0)
theorem ok (k : Nat) : CtOK prog 133 (ct (f k)) := fn_ok func133 rfl (by decide) (hE k) L0 (Lc ev L0)
end transomref03_ReadInt
namespace transomref06_value
abbrev R : Type := Int × Int × Int × ByteArray × ByteArray × Int
def e (r : R) : Res := ⟨.tup [(.agg [(.d (.int .i64) r.1), (.d (.int .i64) r.2.1), (.d (.int .u64) r.2.2.1), (.d .str r.2.2.2.1)]), (.one (.d .str r.2.2.2.2.1)), (.one (.d (.int .i64) r.2.2.2.2.2))], []⟩
abbrev T (δ : Type) : Type := ByteArray → Option δ
abbrev A {δ : Type} (g : T δ) : Arm δ := ⟨[.d .str], [], fun x y => g x.1⟩
abbrev G : Type := T R
def ct (g : G) : Ct := mkCt 0 [] [A g] e
abbrev S0 (δ : Type) : Type := ByteArray → Bool → Int → Int → Int → ByteArray → Int → Int → Int → ByteArray → Option δ
abbrev A_0 {δ : Type} (s : S0 δ) : Arm δ := ⟨[.d .str, .k (.ptr 0 0), .k (.ptr 1 0), .d .bool], [.box [.g T_api_Value], .box [.g T_api_Value]], fun x y => s x.1 x.2.2.2.1 y.1.1.1 y.1.1.2.1 y.1.1.2.2.1 y.1.1.2.2.2.1 y.2.1.1.1 y.2.1.1.2.1 y.2.1.1.2.2.1 y.2.1.1.2.2.2.1⟩
def sg0 (s : S0 R) : Seg := mkSg [1, 3, 1, 3, 1, 3, 1, 3, 1, 4, 1, 0, 1, 1, 1, 1, 1] [] [0, 2, 5, 65] [A_0 s] e
section
variable {β : Type} (g55 : transomref03_ReadText.G) (g76 : transomref04_Check.G) (g123 : transomref05_Number.G) (g133 : transomref03_ReadInt.G) (s0 : S0 R)
noncomputable abbrev env : FEnv := mkEnv prog f108 [(55, transomref03_ReadText.ct g55), (76, transomref04_Check.ct g76), (123, transomref05_Number.ct g123), (133, transomref03_ReadInt.ct g133)] 0 [] [sg0 s0]
def c (ret : R → Option β) (a0 : ByteArray) : Option β := (bif ((a0.size : Int) == (0 : Int)) then (ret ((0 : Int), (0 : Int), (0 : Int), (ByteArray.mk (List.toArray [])), (ByteArray.mk (List.toArray [])), (3 : Int))) else (bif (true && (decide ((0 : Int) < (a0.size : Int)))) then (bif ((true && (decide ((1 : Int) ≤ (a0.size : Int)))) && (decide ((a0.size : Int) ≤ (a0.size : Int)))) then (bif ((IntKind.wrap .i64 (bt a0 (0 : Int))) == (0 : Int)) then ((g76 (IntKind.wrap .i64 (bt a0 (0 : Int))) (0 : Int) (0 : Int) (ByteArray.mk (List.toArray []))).bind fun r0 => (ret ((IntKind.wrap .i64 (bt a0 (0 : Int))), (0 : Int), (0 : Int), (ByteArray.mk (List.toArray [])), (ByteArray.extract a0 (1 : Nat) (Int.toNat (a0.size : Int))), r0))) else (bif ((IntKind.wrap .i64 (bt a0 (0 : Int))) == (1 : Int)) then (bif (((ByteArray.size (ByteArray.extract a0 (1 : Nat) (Int.toNat (a0.size : Int)))) : Int) == (0 : Int)) then (ret ((IntKind.wrap .i64 (bt a0 (0 : Int))), (0 : Int), (0 : Int), (ByteArray.mk (List.toArray [])), (ByteArray.mk (List.toArray [])), (3 : Int))) else (bif (true && (decide ((0 : Int) < ((ByteArray.size (ByteArray.extract a0 (1 : Nat) (Int.toNat (a0.size : Int)))) : Int)))) then (bif ((true && (decide ((1 : Int) ≤ ((ByteArray.size (ByteArray.extract a0 (1 : Nat) (Int.toNat (a0.size : Int)))) : Int)))) && (decide (((ByteArray.size (ByteArray.extract a0 (1 : Nat) (Int.toNat (a0.size : Int)))) : Int) ≤ ((ByteArray.size (ByteArray.extract a0 (1 : Nat) (Int.toNat (a0.size : Int)))) : Int)))) then (bif (decide ((IntKind.wrap .i64 (bt (ByteArray.extract a0 (1 : Nat) (Int.toNat (a0.size : Int))) (0 : Int))) > (1 : Int))) then (ret ((IntKind.wrap .i64 (bt a0 (0 : Int))), (IntKind.wrap .i64 (bt (ByteArray.extract a0 (1 : Nat) (Int.toNat (a0.size : Int))) (0 : Int))), (0 : Int), (ByteArray.mk (List.toArray [])), (ByteArray.extract (ByteArray.extract a0 (1 : Nat) (Int.toNat (a0.size : Int))) (1 : Nat) (Int.toNat ((ByteArray.size (ByteArray.extract a0 (1 : Nat) (Int.toNat (a0.size : Int)))) : Int))), (6 : Int))) else ((g76 (IntKind.wrap .i64 (bt a0 (0 : Int))) (IntKind.wrap .i64 (bt (ByteArray.extract a0 (1 : Nat) (Int.toNat (a0.size : Int))) (0 : Int))) (0 : Int) (ByteArray.mk (List.toArray []))).bind fun r1 => (ret ((IntKind.wrap .i64 (bt a0 (0 : Int))), (IntKind.wrap .i64 (bt (ByteArray.extract a0 (1 : Nat) (Int.toNat (a0.size : Int))) (0 : Int))), (0 : Int), (ByteArray.mk (List.toArray [])), (ByteArray.extract (ByteArray.extract a0 (1 : Nat) (Int.toNat (a0.size : Int))) (1 : Nat) (Int.toNat ((ByteArray.size (ByteArray.extract a0 (1 : Nat) (Int.toNat (a0.size : Int)))) : Int))), r1)))) else none) else none)) else (bif ((IntKind.wrap .i64 (bt a0 (0 : Int))) == (2 : Int)) then ((g133 (ByteArray.extract a0 (1 : Nat) (Int.toNat (a0.size : Int)))).bind fun r2 => (bif (r2.2.2 == (0 : Int)) then ((g76 (IntKind.wrap .i64 (bt a0 (0 : Int))) r2.1 (0 : Int) (ByteArray.mk (List.toArray []))).bind fun r3 => (ret ((IntKind.wrap .i64 (bt a0 (0 : Int))), r2.1, (0 : Int), (ByteArray.mk (List.toArray [])), r2.2.1, r3))) else (ret ((IntKind.wrap .i64 (bt a0 (0 : Int))), r2.1, (0 : Int), (ByteArray.mk (List.toArray [])), r2.2.1, r2.2.2)))) else (bif ((IntKind.wrap .i64 (bt a0 (0 : Int))) == (3 : Int)) then (bif (decide (((ByteArray.size (ByteArray.extract a0 (1 : Nat) (Int.toNat (a0.size : Int)))) : Int) < (8 : Int))) then (ret ((IntKind.wrap .i64 (bt a0 (0 : Int))), (0 : Int), (0 : Int), (ByteArray.mk (List.toArray [])), (ByteArray.mk (List.toArray [])), (3 : Int))) else ((g123 (ByteArray.extract a0 (1 : Nat) (Int.toNat (a0.size : Int)))).bind fun r4 => (bif ((true && (decide ((8 : Int) ≤ ((ByteArray.size (ByteArray.extract a0 (1 : Nat) (Int.toNat (a0.size : Int)))) : Int)))) && (decide (((ByteArray.size (ByteArray.extract a0 (1 : Nat) (Int.toNat (a0.size : Int)))) : Int) ≤ ((ByteArray.size (ByteArray.extract a0 (1 : Nat) (Int.toNat (a0.size : Int)))) : Int)))) then ((g76 (IntKind.wrap .i64 (bt a0 (0 : Int))) (0 : Int) r4 (ByteArray.mk (List.toArray []))).bind fun r5 => (ret ((IntKind.wrap .i64 (bt a0 (0 : Int))), (0 : Int), r4, (ByteArray.mk (List.toArray [])), (ByteArray.extract (ByteArray.extract a0 (1 : Nat) (Int.toNat (a0.size : Int))) (8 : Nat) (Int.toNat ((ByteArray.size (ByteArray.extract a0 (1 : Nat) (Int.toNat (a0.size : Int)))) : Int))), r5))) else none))) else (bif ((IntKind.wrap .i64 (bt a0 (0 : Int))) == (4 : Int)) then ((s0 (ByteArray.extract a0 (1 : Nat) (Int.toNat (a0.size : Int))) ((IntKind.wrap .i64 (bt a0 (0 : Int))) == (4 : Int)) (0 : Int) (0 : Int) (0 : Int) (ByteArray.mk (List.toArray [])) (IntKind.wrap .i64 (bt a0 (0 : Int))) (0 : Int) (0 : Int) (ByteArray.mk (List.toArray []))).bind ret) else ((s0 (ByteArray.extract a0 (1 : Nat) (Int.toNat (a0.size : Int))) ((IntKind.wrap .i64 (bt a0 (0 : Int))) == (5 : Int)) (0 : Int) (0 : Int) (0 : Int) (ByteArray.mk (List.toArray [])) (IntKind.wrap .i64 (bt a0 (0 : Int))) (0 : Int) (0 : Int) (ByteArray.mk (List.toArray []))).bind ret)))))) else none) else none))
def s0c (ret : R → Option β) (x0 : ByteArray) (x1 : Bool) (x2 : Int) (x3 : Int) (x4 : Int) (x5 : ByteArray) (x6 : Int) (x7 : Int) (x8 : Int) (x9 : ByteArray) : Option β := (bif x1 then ((g55 x0).bind fun r0 => (bif (r0.2.2 == (0 : Int)) then ((g76 x6 x7 x8 r0.1).bind fun r1 => (ret (x6, x7, x8, r0.1, r0.2.1, r1))) else (ret (x6, x7, x8, r0.1, r0.2.1, r0.2.2)))) else (ret (x6, x7, x8, x9, x0, (5 : Int))))
variable {g55} {g76} {g123} {g133} {s0}
theorem ev : EvA (env g55 g76 g123 g133 s0) [] [0] e (A (c g76 g123 g133 s0 some)) := fun x y => Eq.trans (b := (A (c g76 g123 g133 s0 fun r => some (e r))).G x y) (by kernel_rfl) (by simp only [A, c, bo, sum_bind, oa, os, on, ofs])
theorem s0_ev : EvA (env g55 g76 g123 g133 s0) [1, 3, 1, 3, 1, 3, 1, 3, 1, 4, 1, 0, 1, 1, 1, 1, 1] [0, 2, 5, 65] e (A_0 (s0c g55 g76 some)) := fun x y => Eq.trans (b := (A_0 (s0c g55 g76 fun r => some (e r))).G x y) (by kernel_rfl) (by simp only [A_0, s0c, bo, sum_bind, oa, os, on, ofs])
end
def s0 : Nat → S0 R
 | 0, _, _, _, _, _, _, _, _, _, _ => none
 | k + 1, x0, x1, x2, x3, x4, x5, x6, x7, x8, x9 => s0c (transomref03_ReadText.f k) (transomref04_Check.f k) some x0 x1 x2 x3 x4 x5 x6 x7 x8 x9
def f (k : Nat) (a0 : ByteArray) : Option R := c (transomref04_Check.f k) (transomref05_Number.f k) (transomref03_ReadInt.f k) (s0 k) some a0
noncomputable abbrev E (k : Nat) : FEnv := env (transomref03_ReadText.f k) (transomref04_Check.f k) (transomref05_Number.f k) (transomref03_ReadInt.f k) (s0 k)
theorem hE (k : Nat) : EnvOK (E k).toEnv := ctsOK (Lc (transomref03_ReadText.ok k) (Lc (transomref04_Check.ok k) (Lc (transomref05_Number.ok k) (Lc (transomref03_ReadInt.ok k) L0))))
theorem sk : ∀ k, ∀ s ∈ [sg0 (s0 k)], SegB prog f108 0 s
 | 0 => (Lc (sn (Lc (fun _ _ => rfl) L0)) L0)
 | k + 1 => (Lc (sg_ok (hE k) (sk k) (Lc s0_ev L0)) L0)
theorem ok (k : Nat) : CtOK prog 108 (ct (f k)) := fn_ok func108 rfl (by decide) (hE k) (sk k) (Lc ev L0)
end transomref06_value
namespace transomref06_Read
abbrev R : Type := (List D_api_Value) × Int
def e (r : R) : Res := ⟨.tup [(.one (.d (.sl T_api_Value) r.1)), (.one (.d (.int .i64) r.2))], []⟩
abbrev T (δ : Type) : Type := ByteArray → Option δ
abbrev A {δ : Type} (g : T δ) : Arm δ := ⟨[.d .str], [], fun x y => g x.1⟩
abbrev G : Type := T R
def ct (g : G) : Ct := mkCt 0 [] [A g] e
abbrev S0 (δ : Type) : Type := ByteArray → Int → Int → (List D_api_Value) → Option δ
abbrev A_0 {δ : Type} (s : S0 δ) : Arm δ := ⟨[.d .str, .d (.int .u64), .k (.own 0), .d (.int .i64)], [.own T_api_Value false], fun x y => s x.1 x.2.1 x.2.2.2.1 y.1⟩
def sg0 (s : S0 R) : Seg := mkSg [4, 1, 0, 1, 1, 1, 1, 1] [.own 6 T_api_Value] [0, 4, 6, 7] [A_0 s] e
section
variable {β : Type} (g69 : transomref03_ReadUint.G) (g108 : transomref06_value.G) (s0 : S0 R)
noncomputable abbrev env : FEnv := mkEnv prog f79 [(69, transomref03_ReadUint.ct g69), (108, transomref06_value.ct g108)] 0 [] [sg0 s0]
def c (ret : R → Option β) (a0 : ByteArray) : Option β := ((g69 a0).bind fun r0 => (bif (r0.2.2 != (0 : Int)) then (ret ([], r0.2.2)) else (bif (decide (r0.1 > (8 : Int))) then (ret ([], (2 : Int))) else ((s0 r0.2.1 r0.1 (0 : Int) []).bind ret))))
def s0c (ret : R → Option β) (x0 : ByteArray) (x1 : Int) (x2 : Int) (x3 : List D_api_Value) : Option β := (bif (decide (x2 < (IntKind.wrap .i64 x1))) then ((g108 x0).bind fun r0 => (bif (r0.2.2.2.2.2 != (0 : Int)) then (ret ([], r0.2.2.2.2.2)) else (bif (decide (((x3.length + (1 : Nat)) * (40 : Nat)) ≤ (35184372088832 : Nat))) then ((s0 r0.2.2.2.2.1 x1 (IntKind.wrap .i64 (x2 + (1 : Int))) (x3 ++ [(r0.1, (r0.2.1, (r0.2.2.1, (r0.2.2.2.1, ()))))])).bind ret) else none))) else (bif (decide ((x0.size : Int) > (0 : Int))) then (ret ([], (4 : Int))) else (ret (x3, (0 : Int)))))
variable {g69} {g108} {s0}
theorem ev : EvA (env g69 g108 s0) [] [0] e (A (c g69 s0 some)) := fun x y => Eq.trans (b := (A (c g69 s0 fun r => some (e r))).G x y) (by kernel_rfl) (by simp only [A, c, bo, sum_bind, oa, os, on, ofs])
theorem s0_ev : EvA (env g69 g108 s0) [4, 1, 0, 1, 1, 1, 1, 1] [0, 4, 6, 7] e (A_0 (s0c g108 s0 some)) := fun x y => Eq.trans (b := (A_0 (s0c g108 s0 fun r => some (e r))).G x y) (by kernel_rfl) (by simp only [A_0, s0c, bo, sum_bind, oa, os, on, ofs])
end
def s0 : Nat → S0 R
 | 0, _, _, _, _ => none
 | k + 1, x0, x1, x2, x3 => s0c (transomref06_value.f k) (s0 k) some x0 x1 x2 x3
def f (k : Nat) (a0 : ByteArray) : Option R := c (transomref03_ReadUint.f k) (s0 k) some a0
noncomputable abbrev E (k : Nat) : FEnv := env (transomref03_ReadUint.f k) (transomref06_value.f k) (s0 k)
theorem hE (k : Nat) : EnvOK (E k).toEnv := ctsOK (Lc (transomref03_ReadUint.ok k) (Lc (transomref06_value.ok k) L0))
theorem sk : ∀ k, ∀ s ∈ [sg0 (s0 k)], SegB prog f79 0 s
 | 0 => (Lc (sn (Lc (fun _ _ => rfl) L0)) L0)
 | k + 1 => (Lc (sg_ok (hE k) (sk k) (Lc s0_ev L0)) L0)
theorem ok (k : Nat) : CtOK prog 79 (ct (f k)) := fn_ok func79 rfl (by decide) (hE k) (sk k) (Lc ev L0)
end transomref06_Read
namespace transomref14_row
abbrev R : Type := (List D_api_Value) × ByteArray × Int
def e (r : R) : Res := ⟨.tup [(.one (.d (.sl T_api_Value) r.1)), (.one (.d .str r.2.1)), (.one (.d (.int .i64) r.2.2))], []⟩
abbrev T (δ : Type) : Type := ByteArray → Option δ
abbrev A {δ : Type} (g : T δ) : Arm δ := ⟨[.d .str], [], fun x y => g x.1⟩
abbrev G : Type := T R
def ct (g : G) : Ct := mkCt 0 [] [A g] e
section
variable {β : Type} (g55 : transomref03_ReadText.G) (g79 : transomref06_Read.G)
noncomputable abbrev env : FEnv := mkEnv prog f56 [(55, transomref03_ReadText.ct g55), (79, transomref06_Read.ct g79)] 0 [] []
def c (ret : R → Option β) (a0 : ByteArray) : Option β := ((g55 a0).bind fun r0 => (bif (r0.2.2 != (0 : Int)) then (ret ([], (ByteArray.mk (List.toArray [])), r0.2.2)) else ((g79 r0.1).bind fun r1 => (bif (r1.2 != (0 : Int)) then (ret ([], (ByteArray.mk (List.toArray [])), r1.2)) else (ret (r1.1, r0.2.1, (0 : Int)))))))
variable {g55} {g79}
theorem ev : EvA (env g55 g79) [] [0] e (A (c g55 g79 some)) := fun x y => Eq.trans (b := (A (c g55 g79 fun r => some (e r))).G x y) (by kernel_rfl) (by simp only [A, c, bo, sum_bind, oa, os, on, ofs])
end
def f (k : Nat) (a0 : ByteArray) : Option R := c (transomref03_ReadText.f k) (transomref06_Read.f k) some a0
noncomputable abbrev E (k : Nat) : FEnv := env (transomref03_ReadText.f k) (transomref06_Read.f k) 
theorem hE (k : Nat) : EnvOK (E k).toEnv := ctsOK (Lc (transomref03_ReadText.ok k) (Lc (transomref06_Read.ok k) L0))
theorem ok (k : Nat) : CtOK prog 56 (ct (f k)) := fn_ok func56 rfl (by decide) (hE k) L0 (Lc ev L0)
end transomref14_row
namespace transomref14_Read
abbrev R : Type := D_api_Op × ByteArray × Int
def e (r : R) : Res := ⟨.tup [(.agg (flat T_api_Op r.1)), (.one (.d .str r.2.1)), (.one (.d (.int .i64) r.2.2))], []⟩
abbrev T (δ : Type) : Type := ByteArray → Option δ
abbrev A {δ : Type} (g : T δ) : Arm δ := ⟨[.d .str], [], fun x y => g x.1⟩
abbrev G : Type := T R
def ct (g : G) : Ct := mkCt 0 [] [A g] e
abbrev S0 (δ : Type) : Type := ByteArray → ByteArray → Int → Int → Bool → Int → ByteArray → Int → Int → ByteArray → ByteArray → ByteArray → ByteArray → ByteArray → Int → ByteArray → Int → Bool → Int → Int → Int → ByteArray → ByteArray → Int → Option δ
abbrev A_0 {δ : Type} (s : S0 δ) : Arm δ := ⟨[.d .str, .k (.ptr 0 0), .d .str, .d (.int .i64), .d (.int .i64), .d .bool], [.box [.g (.int .i64), .g .str, .c .nilS, .c .nilS, .c .nilS, .g (.int .i64), .g (.int .i64), .g .str, .g .str, .g .str, .g .str, .g T_ops_reader, .c .nilS, .g T_api_Col, .g T_ops_reader, .c .nilS]], fun x y => s x.1 x.2.2.1 x.2.2.2.1 x.2.2.2.2.1 x.2.2.2.2.2.1 y.1.1 y.1.2.1 y.1.2.2.2.2.2.1 y.1.2.2.2.2.2.2.1 y.1.2.2.2.2.2.2.2.1 y.1.2.2.2.2.2.2.2.2.1 y.1.2.2.2.2.2.2.2.2.2.1 y.1.2.2.2.2.2.2.2.2.2.2.1 y.1.2.2.2.2.2.2.2.2.2.2.2.1.1 y.1.2.2.2.2.2.2.2.2.2.2.2.1.2.1 y.1.2.2.2.2.2.2.2.2.2.2.2.2.2.1.1 y.1.2.2.2.2.2.2.2.2.2.2.2.2.2.1.2.1 y.1.2.2.2.2.2.2.2.2.2.2.2.2.2.1.2.2.1 y.1.2.2.2.2.2.2.2.2.2.2.2.2.2.1.2.2.2.1.1 y.1.2.2.2.2.2.2.2.2.2.2.2.2.2.1.2.2.2.1.2.1 y.1.2.2.2.2.2.2.2.2.2.2.2.2.2.1.2.2.2.1.2.2.1 y.1.2.2.2.2.2.2.2.2.2.2.2.2.2.1.2.2.2.1.2.2.2.1 y.1.2.2.2.2.2.2.2.2.2.2.2.2.2.2.1.1 y.1.2.2.2.2.2.2.2.2.2.2.2.2.2.2.1.2.1⟩
abbrev S1 (δ : Type) : Type := ByteArray → ByteArray → Int → Int → Int → ByteArray → Int → Int → ByteArray → ByteArray → ByteArray → ByteArray → ByteArray → Int → ByteArray → Int → Bool → Int → Int → Int → ByteArray → ByteArray → Int → Option δ
abbrev A_1 {δ : Type} (s : S1 δ) : Arm δ := ⟨[.d .str, .k (.ptr 0 0), .d .str, .d (.int .i64), .d (.int .i64)], [.box [.g (.int .i64), .g .str, .c .nilS, .c .nilS, .c .nilS, .g (.int .i64), .g (.int .i64), .g .str, .g .str, .g .str, .g .str, .g T_ops_reader, .c .nilS, .g T_api_Col, .g T_ops_reader, .c .nilS]], fun x y => s x.1 x.2.2.1 x.2.2.2.1 x.2.2.2.2.1 y.1.1 y.1.2.1 y.1.2.2.2.2.2.1 y.1.2.2.2.2.2.2.1 y.1.2.2.2.2.2.2.2.1 y.1.2.2.2.2.2.2.2.2.1 y.1.2.2.2.2.2.2.2.2.2.1 y.1.2.2.2.2.2.2.2.2.2.2.1 y.1.2.2.2.2.2.2.2.2.2.2.2.1.1 y.1.2.2.2.2.2.2.2.2.2.2.2.1.2.1 y.1.2.2.2.2.2.2.2.2.2.2.2.2.2.1.1 y.1.2.2.2.2.2.2.2.2.2.2.2.2.2.1.2.1 y.1.2.2.2.2.2.2.2.2.2.2.2.2.2.1.2.2.1 y.1.2.2.2.2.2.2.2.2.2.2.2.2.2.1.2.2.2.1.1 y.1.2.2.2.2.2.2.2.2.2.2.2.2.2.1.2.2.2.1.2.1 y.1.2.2.2.2.2.2.2.2.2.2.2.2.2.1.2.2.2.1.2.2.1 y.1.2.2.2.2.2.2.2.2.2.2.2.2.2.1.2.2.2.1.2.2.2.1 y.1.2.2.2.2.2.2.2.2.2.2.2.2.2.2.1.1 y.1.2.2.2.2.2.2.2.2.2.2.2.2.2.2.1.2.1⟩
abbrev S2 (δ : Type) : Type := ByteArray → ByteArray → Int → ByteArray → Int → Int → ByteArray → Int → Int → ByteArray → ByteArray → ByteArray → ByteArray → ByteArray → Int → ByteArray → Int → Bool → Int → Int → Int → ByteArray → ByteArray → Int → (List (List D_api_Value)) → Option δ
abbrev A_2 {δ : Type} (s : S2 δ) : Arm δ := ⟨[.d .str, .k (.ptr 0 0), .d .str, .d (.int .i64), .d .str, .k (.own 1), .d (.int .i64)], [.box [.g (.int .i64), .g .str, .c .nilS, .c .nilS, .c .nilS, .g (.int .i64), .g (.int .i64), .g .str, .g .str, .g .str, .g .str, .g T_ops_reader, .c .nilS, .g T_api_Col, .g T_ops_reader, .c .nilS], .own (.sl T_api_Value) false], fun x y => s x.1 x.2.2.1 x.2.2.2.1 x.2.2.2.2.1 x.2.2.2.2.2.2.1 y.1.1 y.1.2.1 y.1.2.2.2.2.2.1 y.1.2.2.2.2.2.2.1 y.1.2.2.2.2.2.2.2.1 y.1.2.2.2.2.2.2.2.2.1 y.1.2.2.2.2.2.2.2.2.2.1 y.1.2.2.2.2.2.2.2.2.2.2.1 y.1.2.2.2.2.2.2.2.2.2.2.2.1.1 y.1.2.2.2.2.2.2.2.2.2.2.2.1.2.1 y.1.2.2.2.2.2.2.2.2.2.2.2.2.2.1.1 y.1.2.2.2.2.2.2.2.2.2.2.2.2.2.1.2.1 y.1.2.2.2.2.2.2.2.2.2.2.2.2.2.1.2.2.1 y.1.2.2.2.2.2.2.2.2.2.2.2.2.2.1.2.2.2.1.1 y.1.2.2.2.2.2.2.2.2.2.2.2.2.2.1.2.2.2.1.2.1 y.1.2.2.2.2.2.2.2.2.2.2.2.2.2.1.2.2.2.1.2.2.1 y.1.2.2.2.2.2.2.2.2.2.2.2.2.2.1.2.2.2.1.2.2.2.1 y.1.2.2.2.2.2.2.2.2.2.2.2.2.2.2.1.1 y.1.2.2.2.2.2.2.2.2.2.2.2.2.2.2.1.2.1 y.2.1⟩
abbrev S3 (δ : Type) : Type := ByteArray → ByteArray → Int → ByteArray → Int → Int → ByteArray → ByteArray → ByteArray → ByteArray → ByteArray → Int → ByteArray → Int → Bool → Int → Int → Int → ByteArray → ByteArray → Int → D_api_Op → Option δ
abbrev A_3 {δ : Type} (s : S3 δ) : Arm δ := ⟨[.d .str, .k (.ptr 0 0), .d .str, .k (.ptr 1 0)], [.box [.g (.int .i64), .g .str, .c .nilS, .c .nilS, .c .nilS, .g (.int .i64), .g (.int .i64), .g .str, .g .str, .g .str, .g .str, .g T_ops_reader, .c .nilS, .g T_api_Col, .g T_ops_reader, .c .nilS], .box [.g T_api_Op]], fun x y => s x.1 x.2.2.1 y.1.1 y.1.2.1 y.1.2.2.2.2.2.1 y.1.2.2.2.2.2.2.1 y.1.2.2.2.2.2.2.2.1 y.1.2.2.2.2.2.2.2.2.1 y.1.2.2.2.2.2.2.2.2.2.1 y.1.2.2.2.2.2.2.2.2.2.2.1 y.1.2.2.2.2.2.2.2.2.2.2.2.1.1 y.1.2.2.2.2.2.2.2.2.2.2.2.1.2.1 y.1.2.2.2.2.2.2.2.2.2.2.2.2.2.1.1 y.1.2.2.2.2.2.2.2.2.2.2.2.2.2.1.2.1 y.1.2.2.2.2.2.2.2.2.2.2.2.2.2.1.2.2.1 y.1.2.2.2.2.2.2.2.2.2.2.2.2.2.1.2.2.2.1.1 y.1.2.2.2.2.2.2.2.2.2.2.2.2.2.1.2.2.2.1.2.1 y.1.2.2.2.2.2.2.2.2.2.2.2.2.2.1.2.2.2.1.2.2.1 y.1.2.2.2.2.2.2.2.2.2.2.2.2.2.1.2.2.2.1.2.2.2.1 y.1.2.2.2.2.2.2.2.2.2.2.2.2.2.2.1.1 y.1.2.2.2.2.2.2.2.2.2.2.2.2.2.2.1.2.1 y.2.1.1⟩
def sg0 (s : S0 R) : Seg := mkSg [1, 0, 1, 1, 1] [] [0, 2, 5, 6, 7, 33] [A_0 s] e
def sg1 (s : S1 R) : Seg := mkSg [1, 1, 1, 1] [] [0, 2, 5, 6, 7] [A_1 s] e
def sg2 (s : S2 R) : Seg := mkSg [4, 1, 0, 1, 1, 1, 1, 1, 1, 1, 1] [.own 9 (.sl T_api_Value)] [0, 2, 5, 6, 8, 9, 10] [A_2 s] e
def sg3 (s : S3 R) : Seg := mkSg [1, 1, 1, 1, 1, 1, 1, 1, 1, 1, 1, 1, 1] [.cellDat 15 13 (.sl .str), .cellDat 15 23 (.sl T_api_Col)] [0, 2, 5, 15] [A_3 s] e
section
variable {β : Type} (g13 : transomref14_ReadChange.G) (g17 : transomref14_Put.G) (g43 : transomref14_below.G) (g55 : transomref03_ReadText.G) (g56 : transomref14_row.G) (s0 : S0 R) (s1 : S1 R) (s2 : S2 R) (s3 : S3 R)
noncomputable abbrev env : FEnv := mkEnv prog f19 [(13, transomref14_ReadChange.ct g13), (17, transomref14_Put.ct g17), (43, transomref14_below.ct g43), (55, transomref03_ReadText.ct g55), (56, transomref14_row.ct g56)] 0 [] [sg0 s0, sg1 s1, sg2 s2, sg3 s3]
def c (ret : R → Option β) (a0 : ByteArray) : Option β := ((g43 a0 (10 : Int)).bind fun r0 => (bif (r0.2.2 == (0 : Int)) then ((s0 r0.2.1 a0 r0.1 r0.2.2 (r0.1 == (0 : Int)) (0 : Int) (ByteArray.mk (List.toArray [])) (0 : Int) (0 : Int) (ByteArray.mk (List.toArray [])) (ByteArray.mk (List.toArray [])) (ByteArray.mk (List.toArray [])) (ByteArray.mk (List.toArray [])) (ByteArray.mk (List.toArray [])) (0 : Int) (ByteArray.mk (List.toArray [])) (0 : Int) false (0 : Int) (0 : Int) (0 : Int) (ByteArray.mk (List.toArray [])) (ByteArray.mk (List.toArray [])) (0 : Int)).bind ret) else ((s0 r0.2.1 a0 r0.1 r0.2.2 false (0 : Int) (ByteArray.mk (List.toArray [])) (0 : Int) (0 : Int) (ByteArray.mk (List.toArray [])) (ByteArray.mk (List.toArray [])) (ByteArray.mk (List.toArray [])) (ByteArray.mk (List.toArray [])) (ByteArray.mk (List.toArray [])) (0 : Int) (ByteArray.mk (List.toArray [])) (0 : Int) false (0 : Int) (0 : Int) (0 : Int) (ByteArray.mk (List.toArray [])) (ByteArray.mk (List.toArray [])) (0 : Int)).bind ret)))
def s0c (ret : R → Option β) (x0 : ByteArray) (x1 : ByteArray) (x2 : Int) (x3 : Int) (x4 : Bool) (x5 : Int) (x6 : ByteArray) (x7 : Int) (x8 : Int) (x9 : ByteArray) (x10 : ByteArray) (x11 : ByteArray) (x12 : ByteArray) (x13 : ByteArray) (x14 : Int) (x15 : ByteArray) (x16 : Int) (x17 : Bool) (x18 : Int) (x19 : Int) (x20 : Int) (x21 : ByteArray) (x22 : ByteArray) (x23 : Int) : Option β := (bif x4 then ((s1 x0 x1 x2 (1 : Int) x5 x6 x7 x8 x9 x10 x11 x12 x13 x14 x15 x16 x17 x18 x19 x20 x21 x22 x23).bind ret) else ((s1 x0 x1 x2 x3 x5 x6 x7 x8 x9 x10 x11 x12 x13 x14 x15 x16 x17 x18 x19 x20 x21 x22 x23).bind ret))
def s1c (ret : R → Option β) (x0 : ByteArray) (x1 : ByteArray) (x2 : Int) (x3 : Int) (x4 : Int) (x5 : ByteArray) (x6 : Int) (x7 : Int) (x8 : ByteArray) (x9 : ByteArray) (x10 : ByteArray) (x11 : ByteArray) (x12 : ByteArray) (x13 : Int) (x14 : ByteArray) (x15 : Int) (x16 : Bool) (x17 : Int) (x18 : Int) (x19 : Int) (x20 : ByteArray) (x21 : ByteArray) (x22 : Int) : Option β := (bif (x3 != (0 : Int)) then (ret (Z_api_Op, (ByteArray.mk (List.toArray [])), x3)) else ((g55 x0).bind fun r0 => (bif (r0.2.2 != (0 : Int)) then (ret (Z_api_Op, (ByteArray.mk (List.toArray [])), r0.2.2)) else ((s2 r0.2.1 x1 x2 r0.1 (0 : Int) x4 x5 x6 x7 x8 x9 x10 x11 x12 x13 x14 x15 x16 x17 x18 x19 x20 x21 x22 []).bind ret))))
def s2c (ret : R → Option β) (x0 : ByteArray) (x1 : ByteArray) (x2 : Int) (x3 : ByteArray) (x4 : Int) (x5 : Int) (x6 : ByteArray) (x7 : Int) (x8 : Int) (x9 : ByteArray) (x10 : ByteArray) (x11 : ByteArray) (x12 : ByteArray) (x13 : ByteArray) (x14 : Int) (x15 : ByteArray) (x16 : Int) (x17 : Bool) (x18 : Int) (x19 : Int) (x20 : Int) (x21 : ByteArray) (x22 : ByteArray) (x23 : Int) (x24 : List (List D_api_Value)) : Option β := (bif (decide (x4 < (3 : Int))) then ((g56 x0).bind fun r0 => (bif (r0.2.2 != (0 : Int)) then (ret (Z_api_Op, (ByteArray.mk (List.toArray [])), r0.2.2)) else (bif (decide (((x24.length + (1 : Nat)) * (24 : Nat)) ≤ (35184372088832 : Nat))) then ((s2 r0.2.1 x1 x2 x3 (IntKind.wrap .i64 (x4 + (1 : Int))) x5 x6 x7 x8 x9 x10 x11 x12 x13 x14 x15 x16 x17 x18 x19 x20 x21 x22 x23 (x24 ++ [r0.1])).bind ret) else none))) else ((g43 x0 (65 : Int)).bind fun r1 => (bif (r1.2.2 != (0 : Int)) then (ret (Z_api_Op, (ByteArray.mk (List.toArray [])), r1.2.2)) else (bif (true && (decide ((0 : Int) < (x24.length : Int)))) then (bif (true && (decide ((1 : Int) < (x24.length : Int)))) then (bif (true && (decide ((2 : Int) < (x24.length : Int)))) then (bif (x2 == (6 : Int)) then ((g13 r1.2.1).bind fun r2 => (bif (r2.2.2 != (0 : Int)) then (ret (Z_api_Op, (ByteArray.mk (List.toArray [])), r2.2.2)) else ((s3 r2.2.1 x1 x5 x6 x7 x8 x9 x10 x11 x12 x13 x14 x15 x16 x17 x18 x19 x20 x21 x22 x23 (x2, (x3, ((elem (Ty.sl T_api_Value) x24 (0 : Int)), ((elem (Ty.sl T_api_Value) x24 (1 : Int)), ((elem (Ty.sl T_api_Value) x24 (2 : Int)), (r1.1, (r2.1, ())))))))).bind ret))) else ((s3 r1.2.1 x1 x5 x6 x7 x8 x9 x10 x11 x12 x13 x14 x15 x16 x17 x18 x19 x20 x21 x22 x23 (x2, (x3, ((elem (Ty.sl T_api_Value) x24 (0 : Int)), ((elem (Ty.sl T_api_Value) x24 (1 : Int)), ((elem (Ty.sl T_api_Value) x24 (2 : Int)), (r1.1, (Z_api_Change, ())))))))).bind ret)) else none) else none) else none))))
def s3c (ret : R → Option β) (x0 : ByteArray) (x1 : ByteArray) (x2 : Int) (x3 : ByteArray) (x4 : Int) (x5 : Int) (x6 : ByteArray) (x7 : ByteArray) (x8 : ByteArray) (x9 : ByteArray) (x10 : ByteArray) (x11 : Int) (x12 : ByteArray) (x13 : Int) (x14 : Bool) (x15 : Int) (x16 : Int) (x17 : Int) (x18 : ByteArray) (x19 : ByteArray) (x20 : Int) (x21 : D_api_Op) : Option β := ((g17 x21).bind fun r0 => (bif (r0.2 != (0 : Int)) then (ret (Z_api_Op, (ByteArray.mk (List.toArray [])), (4 : Int))) else (bif ((true && (decide ((0 : Int) ≤ (IntKind.wrap .i64 ((x1.size : Int) - (x0.size : Int)))))) && (decide ((IntKind.wrap .i64 ((x1.size : Int) - (x0.size : Int))) ≤ (x1.size : Int)))) then (bif (!(r0.1.toList == (ByteArray.toList (ByteArray.extract x1 (0 : Nat) (Int.toNat (IntKind.wrap .i64 ((x1.size : Int) - (x0.size : Int)))))))) then (ret (Z_api_Op, (ByteArray.mk (List.toArray [])), (4 : Int))) else (ret (x21, x0, (0 : Int)))) else none)))
variable {g13} {g17} {g43} {g55} {g56} {s0} {s1} {s2} {s3}
theorem ev : EvA (env g13 g17 g43 g55 g56 s0 s1 s2 s3) [] [0] e (A (c g43 s0 some)) := fun x y => Eq.trans (b := (A (c g43 s0 fun r => some (e r))).G x y) (by kernel_rfl) (by simp only [A, c, bo, sum_bind, oa, os, on, ofs])
theorem s0_ev : EvA (env g13 g17 g43 g55 g56 s0 s1 s2 s3) [1, 0, 1, 1, 1] [0, 2, 5, 6, 7, 33] e (A_0 (s0c s1 some)) := fun x y => Eq.trans (b := (A_0 (s0c s1 fun r => some (e r))).G x y) (by kernel_rfl) (by simp only [A_0, s0c, bo, sum_bind, oa, os, on, ofs])
theorem s1_ev : EvA (env g13 g17 g43 g55 g56 s0 s1 s2 s3) [1, 1, 1, 1] [0, 2, 5, 6, 7] e (A_1 (s1c g55 s2 some)) := fun x y => Eq.trans (b := (A_1 (s1c g55 s2 fun r => some (e r))).G x y) (by kernel_rfl) (by simp only [A_1, s1c, bo, sum_bind, oa, os, on, ofs])
theorem s2_ev : EvA (env g13 g17 g43 g55 g56 s0 s1 s2 s3) [4, 1, 0, 1, 1, 1, 1, 1, 1, 1, 1] [0, 2, 5, 6, 8, 9, 10] e (A_2 (s2c g13 g43 g56 s2 s3 some)) := fun x y => Eq.trans (b := (A_2 (s2c g13 g43 g56 s2 s3 fun r => some (e r))).G x y) (by kernel_rfl) (by simp only [A_2, s2c, bo, sum_bind, oa, os, on, ofs])
theorem s3_ev : EvA (env g13 g17 g43 g55 g56 s0 s1 s2 s3) [1, 1, 1, 1, 1, 1, 1, 1, 1, 1, 1, 1, 1] [0, 2, 5, 15] e (A_3 (s3c g17 some)) := fun x y => Eq.trans (b := (A_3 (s3c g17 fun r => some (e r))).G x y) (by kernel_rfl) (by simp only [A_3, s3c, bo, sum_bind, oa, os, on, ofs])
end
mutual
def s0 : Nat → S0 R
 | 0, _, _, _, _, _, _, _, _, _, _, _, _, _, _, _, _, _, _, _, _, _, _, _, _ => none
 | k + 1, x0, x1, x2, x3, x4, x5, x6, x7, x8, x9, x10, x11, x12, x13, x14, x15, x16, x17, x18, x19, x20, x21, x22, x23 => s0c (s1 k) some x0 x1 x2 x3 x4 x5 x6 x7 x8 x9 x10 x11 x12 x13 x14 x15 x16 x17 x18 x19 x20 x21 x22 x23
def s1 : Nat → S1 R
 | 0, _, _, _, _, _, _, _, _, _, _, _, _, _, _, _, _, _, _, _, _, _, _, _ => none
 | k + 1, x0, x1, x2, x3, x4, x5, x6, x7, x8, x9, x10, x11, x12, x13, x14, x15, x16, x17, x18, x19, x20, x21, x22 => s1c (transomref03_ReadText.f k) (s2 k) some x0 x1 x2 x3 x4 x5 x6 x7 x8 x9 x10 x11 x12 x13 x14 x15 x16 x17 x18 x19 x20 x21 x22
def s2 : Nat → S2 R
 | 0, _, _, _, _, _, _, _, _, _, _, _, _, _, _, _, _, _, _, _, _, _, _, _, _, _ => none
 | k + 1, x0, x1, x2, x3, x4, x5, x6, x7, x8, x9, x10, x11, x12, x13, x14, x15, x16, x17, x18, x19, x20, x21, x22, x23, x24 => s2c (transomref14_ReadChange.f k) (transomref14_below.f k) (transomref14_row.f k) (s2 k) (s3 k) some x0 x1 x2 x3 x4 x5 x6 x7 x8 x9 x10 x11 x12 x13 x14 x15 x16 x17 x18 x19 x20 x21 x22 x23 x24
def s3 : Nat → S3 R
 | 0, _, _, _, _, _, _, _, _, _, _, _, _, _, _, _, _, _, _, _, _, _, _ => none
 | k + 1, x0, x1, x2, x3, x4, x5, x6, x7, x8, x9, x10, x11, x12, x13, x14, x15, x16, x17, x18, x19, x20, x21 => s3c (transomref14_Put.f k) some x0 x1 x2 x3 x4 x5 x6 x7 x8 x9 x10 x11 x12 x13 x14 x15 x16 x17 x18 x19 x20 x21
end
def f (k : Nat) (a0 : ByteArray) : Option R := c (transomref14_below.f k) (s0 k) some a0
noncomputable abbrev E (k : Nat) : FEnv := env (transomref14_ReadChange.f k) (transomref14_Put.f k) (transomref14_below.f k) (transomref03_ReadText.f k) (transomref14_row.f k) (s0 k) (s1 k) (s2 k) (s3 k)
theorem hE (k : Nat) : EnvOK (E k).toEnv := ctsOK (Lc (transomref14_ReadChange.ok k) (Lc (transomref14_Put.ok k) (Lc (transomref14_below.ok k) (Lc (transomref03_ReadText.ok k) (Lc (transomref14_row.ok k) L0)))))
theorem sk : ∀ k, ∀ s ∈ [sg0 (s0 k), sg1 (s1 k), sg2 (s2 k), sg3 (s3 k)], SegB prog f19 0 s
 | 0 => (Lc (sn (Lc (fun _ _ => rfl) L0)) (Lc (sn (Lc (fun _ _ => rfl) L0)) (Lc (sn (Lc (fun _ _ => rfl) L0)) (Lc (sn (Lc (fun _ _ => rfl) L0)) L0))))
 | k + 1 => (Lc (sg_ok (hE k) (sk k) (Lc s0_ev L0)) (Lc (sg_ok (hE k) (sk k) (Lc s1_ev L0)) (Lc (sg_ok (hE k) (sk k) (Lc s2_ev L0)) (Lc (sg_ok (hE k) (sk k) (Lc s3_ev L0)) L0))))
theorem ok (k : Nat) : CtOK prog 19 (ct (f k)) := fn_ok func19 rfl (by decide) (hE k) (sk k) (Lc ev L0)
end transomref14_Read
namespace transomref04_Same
def e (r : Bool) : Res := ⟨.v (.one (.d .bool r)), []⟩
abbrev T (δ : Type) : Type := Int → Int → Int → ByteArray → Int → Int → Int → ByteArray → Option δ
abbrev A {δ : Type} (g : T δ) : Arm δ := ⟨[.s T_api_Value, .s T_api_Value], [], fun x y => g x.1.1.1 x.1.1.2.1 x.1.1.2.2.1 x.1.1.2.2.2.1 x.2.1.1.1 x.2.1.1.2.1 x.2.1.1.2.2.1 x.2.1.1.2.2.2.1⟩
abbrev G : Type := T Bool
def ct (g : G) : Ct := mkCt 0 [] [A g] e
section
variable {β : Type} 
noncomputable abbrev env : FEnv := mkEnv prog f72 [] 0 [] []
def c (ret : Bool → Option β) (a0 : Int) (a1 : Int) (a2 : Int) (a3 : ByteArray) (a4 : Int) (a5 : Int) (a6 : Int) (a7 : ByteArray) : Option β := (bif (a0 == a4) then (bif (a1 == a5) then (bif (a2 == a6) then (ret ((a3.toList == a7.toList))) else (ret (false))) else (ret (false))) else (ret (false)))
theorem ev : EvA (env) [] [0, 1] e (A (c some)) := fun x y => Eq.trans (b := (A (c fun r => some (e r))).G x y) (by kernel_rfl) (by simp only [A, c, bo, sum_bind, oa, os, on, ofs])
end
def f (k : Nat) (a0 : Int) (a1 : Int) (a2 : Int) (a3 : ByteArray) (a4 : Int) (a5 : Int) (a6 : Int) (a7 : ByteArray) : Option Bool := c  some a0 a1 a2 a3 a4 a5 a6 a7
noncomputable abbrev E (k : Nat) : FEnv := env  
theorem hE (k : Nat) : EnvOK (E k).toEnv := ctsOK L0
theorem ok (k : Nat) : CtOK prog 72 (ct (f k)) := fn_ok func72 rfl (by decide) (hE k) L0 (Lc ev L0)
end transomref04_Same
namespace transomref04_SameRow
def e (r : Bool) : Res := ⟨.v (.one (.d .bool r)), []⟩
abbrev T (δ : Type) : Type := (List D_api_Value) → (List D_api_Value) → Option δ
abbrev A {δ : Type} (g : T δ) : Arm δ := ⟨[.d (.sl T_api_Value), .d (.sl T_api_Value)], [], fun x y => g x.1 x.2.1⟩
abbrev G : Type := T Bool
def ct (g : G) : Ct := mkCt 0 [] [A g] e
abbrev S0 (δ : Type) : Type := (List D_api_Value) → (List D_api_Value) → Int → Option δ
abbrev A_0 {δ : Type} (s : S0 δ) : Arm δ := ⟨[.d (.sl T_api_Value), .d (.sl T_api_Value), .d (.int .i64)], [], fun x y => s x.1 x.2.1 x.2.2.1⟩
def sg0 (s : S0 Bool) : Seg := mkSg [4, 1, 0, 1, 1] [] [0, 1, 5] [A_0 s] e
section
variable {β : Type} (g72 : transomref04_Same.G) (s0 : S0 Bool)
noncomputable abbrev env : FEnv := mkEnv prog f80 [(72, transomref04_Same.ct g72)] 0 [] [sg0 s0]
def c (ret : Bool → Option β) (a0 : List D_api_Value) (a1 : List D_api_Value) : Option β := (bif ((a0.length : Int) != (a1.length : Int)) then (ret (false)) else ((s0 a0 a1 (0 : Int)).bind ret))
def s0c (ret : Bool → Option β) (x0 : List D_api_Value) (x1 : List D_api_Value) (x2 : Int) : Option β := (bif (decide (x2 < (x0.length : Int))) then (bif ((decide ((0 : Int) ≤ x2)) && (decide (x2 < (x0.length : Int)))) then (bif ((decide ((0 : Int) ≤ x2)) && (decide (x2 < (x1.length : Int)))) then ((g72 (elem T_api_Value x0 x2).1 (elem T_api_Value x0 x2).2.1 (elem T_api_Value x0 x2).2.2.1 (elem T_api_Value x0 x2).2.2.2.1 (elem T_api_Value x1 x2).1 (elem T_api_Value x1 x2).2.1 (elem T_api_Value x1 x2).2.2.1 (elem T_api_Value x1 x2).2.2.2.1).bind fun r0 => (bif (!r0) then (ret (false)) else ((s0 x0 x1 (IntKind.wrap .i64 (x2 + (1 : Int)))).bind ret))) else none) else none) else (ret (true)))
variable {g72} {s0}
theorem ev : EvA (env g72 s0) [] [0, 1] e (A (c s0 some)) := fun x y => Eq.trans (b := (A (c s0 fun r => some (e r))).G x y) (by kernel_rfl) (by simp only [A, c, bo, sum_bind, oa, os, on, ofs])
theorem s0_ev : EvA (env g72 s0) [4, 1, 0, 1, 1] [0, 1, 5] e (A_0 (s0c g72 s0 some)) := fun x y => Eq.trans (b := (A_0 (s0c g72 s0 fun r => some (e r))).G x y) (by kernel_rfl) (by simp only [A_0, s0c, bo, sum_bind, oa, os, on, ofs])
end
def s0 : Nat → S0 Bool
 | 0, _, _, _ => none
 | k + 1, x0, x1, x2 => s0c (transomref04_Same.f k) (s0 k) some x0 x1 x2
def f (k : Nat) (a0 : List D_api_Value) (a1 : List D_api_Value) : Option Bool := c (s0 k) some a0 a1
noncomputable abbrev E (k : Nat) : FEnv := env (transomref04_Same.f k) (s0 k)
theorem hE (k : Nat) : EnvOK (E k).toEnv := ctsOK (Lc (transomref04_Same.ok k) L0)
theorem sk : ∀ k, ∀ s ∈ [sg0 (s0 k)], SegB prog f80 0 s
 | 0 => (Lc (sn (Lc (fun _ _ => rfl) L0)) L0)
 | k + 1 => (Lc (sg_ok (hE k) (sk k) (Lc s0_ev L0)) L0)
theorem ok (k : Nat) : CtOK prog 80 (ct (f k)) := fn_ok func80 rfl (by decide) (hE k) (sk k) (Lc ev L0)
end transomref04_SameRow
namespace transomref06_Same
def e (r : Bool) : Res := ⟨.v (.one (.d .bool r)), []⟩
abbrev T (δ : Type) : Type := (List D_api_Value) → (List D_api_Value) → Option δ
abbrev A {δ : Type} (g : T δ) : Arm δ := ⟨[.d (.sl T_api_Value), .d (.sl T_api_Value)], [], fun x y => g x.1 x.2.1⟩
abbrev G : Type := T Bool
def ct (g : G) : Ct := mkCt 0 [] [A g] e
section
variable {β : Type} (g80 : transomref04_SameRow.G)
noncomputable abbrev env : FEnv := mkEnv prog f57 [(80, transomref04_SameRow.ct g80)] 0 [] []
def c (ret : Bool → Option β) (a0 : List D_api_Value) (a1 : List D_api_Value) : Option β := ((g80 a0 a1).bind fun r0 => (ret (r0)))
variable {g80}
theorem ev : EvA (env g80) [] [0, 1] e (A (c g80 some)) := fun x y => Eq.trans (b := (A (c g80 fun r => some (e r))).G x y) (by kernel_rfl) (by simp only [A, c, bo, sum_bind, oa, os, on, ofs])
end
def f (k : Nat) (a0 : List D_api_Value) (a1 : List D_api_Value) : Option Bool := c (transomref04_SameRow.f k) some a0 a1
noncomputable abbrev E (k : Nat) : FEnv := env (transomref04_SameRow.f k) 
theorem hE (k : Nat) : EnvOK (E k).toEnv := ctsOK (Lc (transomref04_SameRow.ok k) L0)
theorem ok (k : Nat) : CtOK prog 57 (ct (f k)) := fn_ok func57 rfl (by decide) (hE k) L0 (Lc ev L0)
end transomref06_Same
end Go.Proofs.YtaehpfmnejeddaaGreatDoor.Aev
