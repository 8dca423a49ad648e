import Derived.Test.YtaehpfmnejeddaaGreatDoorTys
import Derived.Test.YtaehpfmnejeddaaGreatDoorProg
import Derived.Laws.Externs
import Derived.Lib.Bytealg
import Derived.Test.YtaehpfmnejeddaaGreatDoorF6
import Derived.Test.YtaehpfmnejeddaaGreatDoorF7
import Derived.Test.YtaehpfmnejeddaaGreatDoorF8
/- By a program of this session (AEV): functions of the program as plain functions, and that the machine does what they say. -/
namespace Go.Proofs.YtaehpfmnejeddaaGreatDoor.Aev
set_option linter.unusedVariables false
set_option linter.unusedSimpArgs false
set_option maxRecDepth 100000
set_option maxHeartbeats 4000000
open Go Go.Proofs.Tryz
namespace transomref14_PutChange
abbrev R : Type := ByteArray × Int
def e (r : R) : Res := ⟨.tup [(.one (.d .str r.1)), (.one (.d (.int .i64) r.2))], []⟩
abbrev T (δ : Type) : Type := D_api_Change → Option δ
abbrev A {δ : Type} (g : T δ) : Arm δ := ⟨[.s T_api_Change], [], fun x y => g x.1.1⟩
abbrev G : Type := T R
def ct (g : G) : Ct := mkCt 0 [] [A g] e
abbrev S0 (δ : Type) : Type := Bool → D_api_Change → Option δ
abbrev A_0 {δ : Type} (s : S0 δ) : Arm δ := ⟨[.k (.ptr 0 0), .d .bool], [.box [.g T_api_Change]], fun x y => s x.2.1 y.1.1⟩
abbrev S1 (δ : Type) : Type := D_api_Change → Option δ
abbrev A_1 {δ : Type} (s : S1 δ) : Arm δ := ⟨[.k (.ptr 0 0)], [.box [.g T_api_Change]], fun x y => s y.1.1⟩
abbrev S2 (δ : Type) : Type := Bool → D_api_Change → Option δ
abbrev A_2 {δ : Type} (s : S2 δ) : Arm δ := ⟨[.k (.ptr 0 0), .d .bool], [.box [.g T_api_Change]], fun x y => s x.2.1 y.1.1⟩
abbrev S3 (δ : Type) : Type := D_api_Change → Option δ
abbrev A_3 {δ : Type} (s : S3 δ) : Arm δ := ⟨[.k (.ptr 0 0)], [.box [.g T_api_Change]], fun x y => s y.1.1⟩
abbrev S4 (δ : Type) : Type := ByteArray → D_api_Change → Option δ
abbrev A_4 {δ : Type} (s : S4 δ) : Arm δ := ⟨[.k (.ptr 0 0), .d .str], [.box [.g T_api_Change]], fun x y => s x.2.1 y.1.1⟩
abbrev S5 (δ : Type) : Type := ByteArray → ByteArray → Int → D_api_Change → Option δ
abbrev A_5 {δ : Type} (s : S5 δ) : Arm δ := ⟨[.k (.ptr 0 0), .d .str, .d .str, .d (.int .i64)], [.box [.g T_api_Change]], fun x y => s x.2.1 x.2.2.1 x.2.2.2.1 y.1.1⟩
def sg0 (s : S0 R) : Seg := mkSg [1, 0, 1] [] [1, 34] [A_0 s] e
def sg1 (s : S1 R) : Seg := mkSg [1, 1] [] [1] [A_1 s] e
def sg2 (s : S2 R) : Seg := mkSg [1, 0, 1, 1] [] [1, 51] [A_2 s] e
def sg3 (s : S3 R) : Seg := mkSg [1, 1, 1] [] [1] [A_3 s] e
def sg4 (s : S4 R) : Seg := mkSg [1, 1, 1, 1, 1, 1] [] [1, 6] [A_4 s] e
def sg5 (s : S5 R) : Seg := mkSg [4, 1, 0, 1, 1, 1, 1, 1, 1, 1, 1] [] [1, 6, 9, 10] [A_5 s] e
section
variable {β : Type} (g34 : transomref14_long.G) (g35 : transomref14_def.G) (g36 : transomref09_Put.G) (g37 : transomref03_Uint.G) (g38 : transomref03_Text.G) (s0 : S0 R) (s1 : S1 R) (s2 : S2 R) (s3 : S3 R) (s4 : S4 R) (s5 : S5 R)
noncomputable abbrev env : FEnv := mkEnv prog f11 [(34, transomref14_long.ct g34), (35, transomref14_def.ct g35), (36, transomref09_Put.ct g36), (37, transomref03_Uint.ct g37), (38, transomref03_Text.ct g38)] 0 [] [sg0 s0, sg1 s1, sg2 s2, sg3 s3, sg4 s4, sg5 s5]
def c (ret : R → Option β) (a0 : D_api_Change) : Option β := (bif (decide (a0.1 < (1 : Int))) then ((s0 true a0).bind ret) else (bif (decide (a0.1 > (6 : Int))) then ((s0 true a0).bind ret) else (bif (decide (a0.2.2.2.2.2.2.1 < (0 : Int))) then ((s0 true a0).bind ret) else (bif (decide (a0.2.2.2.2.2.2.1 > (100 : Int))) then ((s0 true a0).bind ret) else ((s0 (decide ((a0.2.2.2.2.2.2.2.1.length : Int) > (8 : Int))) a0).bind ret)))))
def s0c (ret : R → Option β) (x0 : Bool) (x1 : D_api_Change) : Option β := (bif x0 then (ret ((ByteArray.mk (List.toArray [])), (1 : Int))) else ((s1 x1).bind ret))
def s1c (ret : R → Option β) (x0 : D_api_Change) : Option β := ((g34 [x0.2.1, x0.2.2.1, x0.2.2.2.1, x0.2.2.2.2.1, x0.2.2.2.2.2.1]).bind fun r0 => (bif r0 then ((s2 true x0).bind ret) else ((g34 x0.2.2.2.2.2.2.2.1).bind fun r1 => ((s2 r1 x0).bind ret))))
def s2c (ret : R → Option β) (x0 : Bool) (x1 : D_api_Change) : Option β := (bif x0 then (ret ((ByteArray.mk (List.toArray [])), (8 : Int))) else ((s3 x1).bind ret))
def s3c (ret : R → Option β) (x0 : D_api_Change) : Option β := ((g35 x0).bind fun r0 => (bif r0.2.2.2 then ((g36 r0.1 r0.2.1 r0.2.2.1).bind fun r1 => (bif (r1.2 != (0 : Int)) then (ret ((ByteArray.mk (List.toArray [])), r1.2)) else ((s4 r1.1 x0).bind ret))) else ((s4 (ByteArray.mk (List.toArray [])) x0).bind ret)))
def s4c (ret : R → Option β) (x0 : ByteArray) (x1 : D_api_Change) : Option β := ((g37 (IntKind.wrap .u64 x1.1)).bind fun r0 => ((g38 x1.2.1).bind fun r1 => (bif ((decide (r0.size ≤ (4611686018427387903 : Nat))) && (decide (r1.size ≤ (4611686018427387903 : Nat)))) then ((g38 x1.2.2.1).bind fun r2 => (bif ((decide ((ByteArray.size (r0 ++ r1)) ≤ (4611686018427387903 : Nat))) && (decide (r2.size ≤ (4611686018427387903 : Nat)))) then ((g38 x1.2.2.2.1).bind fun r3 => (bif ((decide ((ByteArray.size ((r0 ++ r1) ++ r2)) ≤ (4611686018427387903 : Nat))) && (decide (r3.size ≤ (4611686018427387903 : Nat)))) then ((g38 x1.2.2.2.2.1).bind fun r4 => (bif ((decide ((ByteArray.size (((r0 ++ r1) ++ r2) ++ r3)) ≤ (4611686018427387903 : Nat))) && (decide (r4.size ≤ (4611686018427387903 : Nat)))) then ((g38 x1.2.2.2.2.2.1).bind fun r5 => (bif ((decide ((ByteArray.size ((((r0 ++ r1) ++ r2) ++ r3) ++ r4)) ≤ (4611686018427387903 : Nat))) && (decide (r5.size ≤ (4611686018427387903 : Nat)))) then ((g37 (IntKind.wrap .u64 x1.2.2.2.2.2.2.1)).bind fun r6 => (bif ((decide ((ByteArray.size (((((r0 ++ r1) ++ r2) ++ r3) ++ r4) ++ r5)) ≤ (4611686018427387903 : Nat))) && (decide (r6.size ≤ (4611686018427387903 : Nat)))) then ((g37 (IntKind.wrap .u64 (x1.2.2.2.2.2.2.2.1.length : Int))).bind fun r7 => (bif ((decide ((ByteArray.size ((((((r0 ++ r1) ++ r2) ++ r3) ++ r4) ++ r5) ++ r6)) ≤ (4611686018427387903 : Nat))) && (decide (r7.size ≤ (4611686018427387903 : Nat)))) then ((s5 x0 (((((((r0 ++ r1) ++ r2) ++ r3) ++ r4) ++ r5) ++ r6) ++ r7) (0 : Int) x1).bind ret) else none)) else none)) else none)) else none)) else none)) else none)) else none)))
def s5c (ret : R → Option β) (x0 : ByteArray) (x1 : ByteArray) (x2 : Int) (x3 : D_api_Change) : Option β := (bif (decide (x2 < (x3.2.2.2.2.2.2.2.1.length : Int))) then (bif ((decide ((0 : Int) ≤ x2)) && (decide (x2 < (x3.2.2.2.2.2.2.2.1.length : Int)))) then ((g38 (elem Ty.str x3.2.2.2.2.2.2.2.1 x2)).bind fun r0 => (bif ((decide (x1.size ≤ (4611686018427387903 : Nat))) && (decide (r0.size ≤ (4611686018427387903 : Nat)))) then ((s5 x0 (x1 ++ r0) (IntKind.wrap .i64 (x2 + (1 : Int))) x3).bind ret) else none)) else none) else (bif ((decide (x1.size ≤ (4611686018427387903 : Nat))) && (decide (x0.size ≤ (4611686018427387903 : Nat)))) then (ret ((x1 ++ x0), (0 : Int))) else none))
variable {g34} {g35} {g36} {g37} {g38} {s0} {s1} {s2} {s3} {s4} {s5}
theorem ev : EvA (env g34 g35 g36 g37 g38 s0 s1 s2 s3 s4 s5) [] [0] e (A (c s0 some)) := fun x y => Eq.trans (b := (A (c s0 fun r => some (e r))).G x y) (by kernel_rfl) (by simp only [A, c, bo, sum_bind, oa, os, on, ofs])
theorem s0_ev : EvA (env g34 g35 g36 g37 g38 s0 s1 s2 s3 s4 s5) [1, 0, 1] [1, 34] e (A_0 (s0c s1 some)) := fun x y => Eq.trans (b := (A_0 (s0c s1 fun r => some (e r))).G x y) (by kernel_rfl) (by simp only [A_0, s0c, bo, sum_bind, oa, os, on, ofs])
theorem s1_ev : EvA (env g34 g35 g36 g37 g38 s0 s1 s2 s3 s4 s5) [1, 1] [1] e (A_1 (s1c g34 s2 some)) := fun x y => Eq.trans (b := (A_1 (s1c g34 s2 fun r => some (e r))).G x y) (by kernel_rfl) (by simp only [A_1, s1c, bo, sum_bind, oa, os, on, ofs])
theorem s2_ev : EvA (env g34 g35 g36 g37 g38 s0 s1 s2 s3 s4 s5) [1, 0, 1, 1] [1, 51] e (A_2 (s2c s3 some)) := fun x y => Eq.trans (b := (A_2 (s2c s3 fun r => some (e r))).G x y) (by kernel_rfl) (by simp only [A_2, s2c, bo, sum_bind, oa, os, on, ofs])
theorem s3_ev : EvA (env g34 g35 g36 g37 g38 s0 s1 s2 s3 s4 s5) [1, 1, 1] [1] e (A_3 (s3c g35 g36 s4 some)) := fun x y => Eq.trans (b := (A_3 (s3c g35 g36 s4 fun r => some (e r))).G x y) (by kernel_rfl) (by simp only [A_3, s3c, bo, sum_bind, oa, os, on, ofs])
theorem s4_ev : EvA (env g34 g35 g36 g37 g38 s0 s1 s2 s3 s4 s5) [1, 1, 1, 1, 1, 1] [1, 6] e (A_4 (s4c g37 g38 s5 some)) := fun x y => Eq.trans (b := (A_4 (s4c g37 g38 s5 fun r => some (e r))).G x y) (by kernel_rfl) (by simp only [A_4, s4c, bo, sum_bind, oa, os, on, ofs])
theorem s5_ev : EvA (env g34 g35 g36 g37 g38 s0 s1 s2 s3 s4 s5) [4, 1, 0, 1, 1, 1, 1, 1, 1, 1, 1] [1, 6, 9, 10] e (A_5 (s5c g38 s5 some)) := fun x y => Eq.trans (b := (A_5 (s5c g38 s5 fun r => some (e r))).G x y) (by kernel_rfl) (by simp only [A_5, s5c, bo, sum_bind, oa, os, on, ofs])
end
mutual
def s0 : Nat → S0 R
 | 0, _, _ => none
 | k + 1, x0, x1 => s0c (s1 k) some x0 x1
def s1 : Nat → S1 R
 | 0, _ => none
 | k + 1, x0 => s1c (transomref14_long.f k) (s2 k) some x0
def s2 : Nat → S2 R
 | 0, _, _ => none
 | k + 1, x0, x1 => s2c (s3 k) some x0 x1
def s3 : Nat → S3 R
 | 0, _ => none
 | k + 1, x0 => s3c (transomref14_def.f k) (transomref09_Put.f k) (s4 k) some x0
def s4 : Nat → S4 R
 | 0, _, _ => none
 | k + 1, x0, x1 => s4c (transomref03_Uint.f k) (transomref03_Text.f k) (s5 k) some x0 x1
def s5 : Nat → S5 R
 | 0, _, _, _, _ => none
 | k + 1, x0, x1, x2, x3 => s5c (transomref03_Text.f k) (s5 k) some x0 x1 x2 x3
end
def f (k : Nat) (a0 : D_api_Change) : Option R := c (s0 k) some a0
noncomputable abbrev E (k : Nat) : FEnv := env (transomref14_long.f k) (transomref14_def.f k) (transomref09_Put.f k) (transomref03_Uint.f k) (transomref03_Text.f k) (s0 k) (s1 k) (s2 k) (s3 k) (s4 k) (s5 k)
theorem hE (k : Nat) : EnvOK (E k).toEnv := ctsOK (Lc (transomref14_long.ok k) (Lc (transomref14_def.ok k) (Lc (transomref09_Put.ok k) (Lc (transomref03_Uint.ok k) (Lc (transomref03_Text.ok k) L0)))))
theorem sk : ∀ k, ∀ s ∈ [sg0 (s0 k), sg1 (s1 k), sg2 (s2 k), sg3 (s3 k), sg4 (s4 k), sg5 (s5 k)], SegB prog f11 0 s
 | 0 => (Lc (sn (Lc (fun _ _ => rfl) L0)) (Lc (sn (Lc (fun _ _ => rfl) L0)) (Lc (sn (Lc (fun _ _ => rfl) L0)) (Lc (sn (Lc (fun _ _ => rfl) L0)) (Lc (sn (Lc (fun _ _ => rfl) L0)) (Lc (sn (Lc (fun _ _ => rfl) L0)) L0))))))
 | k + 1 => (Lc (sg_ok (hE k) (sk k) (Lc s0_ev L0)) (Lc (sg_ok (hE k) (sk k) (Lc s1_ev L0)) (Lc (sg_ok (hE k) (sk k) (Lc s2_ev L0)) (Lc (sg_ok (hE k) (sk k) (Lc s3_ev L0)) (Lc (sg_ok (hE k) (sk k) (Lc s4_ev L0)) (Lc (sg_ok (hE k) (sk k) (Lc s5_ev L0)) L0))))))
theorem ok (k : Nat) : CtOK prog 11 (ct (f k)) := fn_ok func11 rfl (by decide) (hE k) (sk k) (Lc ev L0)
end transomref14_PutChange
end Go.Proofs.YtaehpfmnejeddaaGreatDoor.Aev
