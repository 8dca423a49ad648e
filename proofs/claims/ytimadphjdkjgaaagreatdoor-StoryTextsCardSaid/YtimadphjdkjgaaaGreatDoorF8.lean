import Derived.Test.YtimadphjdkjgaaaGreatDoorTys
import Derived.Test.YtimadphjdkjgaaaGreatDoorProg
import Derived.Laws.Externs
import Derived.Lib.Bytealg
import Derived.Test.YtimadphjdkjgaaaGreatDoorF7
/- By a program of this session (AEV): functions of the program as plain functions, and that the machine does what they say. -/
namespace Go.Proofs.YtimadphjdkjgaaaGreatDoor.Aev
set_option linter.unusedVariables false
set_option linter.unusedSimpArgs false
set_option maxRecDepth 100000
set_option maxHeartbeats 4000000
open Go Go.Proofs.Tryz
namespace r01_among
def e (r : Bool) : Res := ⟨.v (.one (.d .bool r)), []⟩
abbrev T (δ : Type) : Type := Int → Int → Int → Option δ
abbrev A {δ : Type} (g : T δ) : Arm δ := ⟨[.d (.int .i64), .d (.int .i64), .d (.int .i64)], [], fun x y => g x.1 x.2.1 x.2.2.1⟩
abbrev G : Type := T Bool
def ct (g : G) : Ct := mkCt 0 [] [A g] e
abbrev S0 (δ : Type) : Type := Int → Int → Int → Int → Int → Option δ
abbrev A_0 {δ : Type} (s : S0 δ) : Arm δ := ⟨[.d (.int .i64), .d (.int .i64), .d (.int .i64), .d (.int .i64), .d (.int .i64)], [], fun x y => s x.1 x.2.1 x.2.2.1 x.2.2.2.1 x.2.2.2.2.1⟩
abbrev S1 (δ : Type) : Type := Int → Int → Int → Int → Int → Option δ
abbrev A_1 {δ : Type} (s : S1 δ) : Arm δ := ⟨[.d (.int .i64), .d (.int .i64), .d (.int .i64), .d (.int .i64), .d (.int .i64)], [], fun x y => s x.1 x.2.1 x.2.2.1 x.2.2.2.1 x.2.2.2.2.1⟩
abbrev S2 (δ : Type) : Type := Int → Int → Int → Int → Option δ
abbrev A_2 {δ : Type} (s : S2 δ) : Arm δ := ⟨[.d (.int .i64), .d (.int .i64), .d (.int .i64), .d (.int .i64)], [], fun x y => s x.1 x.2.1 x.2.2.1 x.2.2.2.1⟩
def sg0 (s : S0 Bool) : Seg := mkSg [1, 1, 1] [] [0, 1, 2, 7, 8] [A_0 s] e
def sg1 (s : S1 Bool) : Seg := mkSg [1, 1, 1, 1] [] [0, 1, 2, 7, 8] [A_1 s] e
def sg2 (s : S2 Bool) : Seg := mkSg [1, 1, 1, 1, 1] [] [0, 1, 7, 8] [A_2 s] e
section
variable {β : Type} (s0 : S0 Bool) (s1 : S1 Bool) (s2 : S2 Bool)
noncomputable abbrev env : FEnv := mkEnv prog f142 [] 0 [] [sg0 s0, sg1 s1, sg2 s2]
def c (ret : Bool → Option β) (a0 a1 a2 : Int) : Option β := (bif (a2 == (2 : Int)) then ((s0 a0 a1 a2 (128 : Int) (2047 : Int)).bind ret) else ((s0 a0 a1 a2 (0 : Int) (127 : Int)).bind ret))
def s0c (ret : Bool → Option β) (x0 x1 : Int) (x2 x3 x4 : Int) : Option β := (bif (x2 == (3 : Int)) then ((s1 x0 x1 x2 (2048 : Int) (65535 : Int)).bind ret) else ((s1 x0 x1 x2 x3 x4).bind ret))
def s1c (ret : Bool → Option β) (x0 x1 : Int) (x2 x3 x4 : Int) : Option β := (bif (x2 == (4 : Int)) then ((s2 x0 x1 (65536 : Int) (1114111 : Int)).bind ret) else ((s2 x0 x1 x3 x4).bind ret))
def s2c (ret : Bool → Option β) (x0 x1 : Int) (x2 x3 : Int) : Option β := (bif (decide ((if (x2 > x0) then x2 else x0) > (if (x3 < x1) then x3 else x1))) then (ret (false)) else (bif (decide ((if (x2 > x0) then x2 else x0) < (55296 : Int))) then (ret (true)) else (ret ((decide ((if (x3 < x1) then x3 else x1) > (57343 : Int)))))))
variable {s0} {s1} {s2}
theorem ev : EvA (env s0 s1 s2) [] [0, 1, 2] e (A (c s0 some)) := fun x y => Eq.trans (b := (A (c s0 fun r => some (e r))).G x y) (by kernel_rfl) (by simp only [A, c, bo, so, oa, os, on, ofs])
theorem s0_ev : EvA (env s0 s1 s2) [1, 1, 1] [0, 1, 2, 7, 8] e (A_0 (s0c s1 some)) := fun x y => Eq.trans (b := (A_0 (s0c s1 fun r => some (e r))).G x y) (by kernel_rfl) (by simp only [A_0, s0c, bo, so, oa, os, on, ofs])
theorem s1_ev : EvA (env s0 s1 s2) [1, 1, 1, 1] [0, 1, 2, 7, 8] e (A_1 (s1c s2 some)) := fun x y => Eq.trans (b := (A_1 (s1c s2 fun r => some (e r))).G x y) (by kernel_rfl) (by simp only [A_1, s1c, bo, so, oa, os, on, ofs])
theorem s2_ev : EvA (env s0 s1 s2) [1, 1, 1, 1, 1] [0, 1, 7, 8] e (A_2 (s2c some)) := fun x y => Eq.trans (b := (A_2 (s2c fun r => some (e r))).G x y) (by kernel_rfl) (by simp only [A_2, s2c, bo, so, oa, os, on, ofs])
end
mutual
def s0 : Nat → S0 Bool
 | 0, _, _, _, _, _ => none
 | k + 1, x0, x1, x2, x3, x4 => s0c (s1 k) some x0 x1 x2 x3 x4
def s1 : Nat → S1 Bool
 | 0, _, _, _, _, _ => none
 | k + 1, x0, x1, x2, x3, x4 => s1c (s2 k) some x0 x1 x2 x3 x4
def s2 : Nat → S2 Bool
 | 0, _, _, _, _ => none
 | k + 1, x0, x1, x2, x3 => s2c  some x0 x1 x2 x3
end
def f (k : Nat) (a0 a1 a2 : Int) : Option Bool := c (s0 k) some a0 a1 a2
noncomputable abbrev E (k : Nat) : FEnv := env  (s0 k) (s1 k) (s2 k)
theorem hE (k : Nat) : EnvOK (E k).toEnv := ctsOK L0
theorem sk : ∀ k, ∀ s ∈ [sg0 (s0 k), sg1 (s1 k), sg2 (s2 k)], SegB prog f142 0 s
 | 0 => (Lc (sn (Lc (fun _ _ => rfl) L0)) (Lc (sn (Lc (fun _ _ => rfl) L0)) (Lc (sn (Lc (fun _ _ => rfl) L0)) L0)))
 | k + 1 => (Lc (sg_ok (hE k) (sk k) (Lc s0_ev L0)) (Lc (sg_ok (hE k) (sk k) (Lc s1_ev L0)) (Lc (sg_ok (hE k) (sk k) (Lc s2_ev L0)) L0)))
theorem ok (k : Nat) : CtOK prog 142 (ct (f k)) := fn_ok func142 rfl (by decide) (hE k) (sk k) (Lc ev L0)
end r01_among
namespace r01_Next
abbrev R : Type := Int × Int × Int
def e (r : R) : Res := ⟨.tup [(.one (.d (.int .i64) r.1)), (.one (.d (.int .i64) r.2.1)), (.one (.d (.int .i64) r.2.2))], []⟩
abbrev T (δ : Type) : Type := ByteArray → Option δ
abbrev A {δ : Type} (g : T δ) : Arm δ := ⟨[.d .str], [], fun x y => g x.1⟩
abbrev G : Type := T R
def ct (g : G) : Ct := mkCt 0 [] [A g] e
abbrev S0 (δ : Type) : Type := ByteArray → Int → Int → Int → Int → Option δ
abbrev A_0 {δ : Type} (s : S0 δ) : Arm δ := ⟨[.d .str, .d (.int .i64), .d (.int .i64), .d (.int .i64), .d (.int .i64)], [], fun x y => s x.1 x.2.1 x.2.2.1 x.2.2.2.1 x.2.2.2.2.1⟩
abbrev S1 (δ : Type) : Type := ByteArray → Int → Int → Int → Int → Option δ
abbrev A_1 {δ : Type} (s : S1 δ) : Arm δ := ⟨[.d .str, .d (.int .i64), .d (.int .i64), .d (.int .i64), .d (.int .i64)], [], fun x y => s x.1 x.2.1 x.2.2.1 x.2.2.2.1 x.2.2.2.2.1⟩
abbrev S2 (δ : Type) : Type := ByteArray → Int → Int → Int → Int → Int → Bool → Option δ
abbrev A_2 {δ : Type} (s : S2 δ) : Arm δ := ⟨[.d .str, .d (.int .i64), .d (.int .i64), .d (.int .i64), .d (.int .i64), .d (.int .i64), .d .bool], [], fun x y => s x.1 x.2.1 x.2.2.1 x.2.2.2.1 x.2.2.2.2.1 x.2.2.2.2.2.1 x.2.2.2.2.2.2.1⟩
abbrev S3 (δ : Type) : Type := ByteArray → Int → Int → Int → Int → Int → Option δ
abbrev A_3 {δ : Type} (s : S3 δ) : Arm δ := ⟨[.d .str, .d (.int .i64), .d (.int .i64), .d (.int .i64), .d (.int .i64), .d (.int .i64)], [], fun x y => s x.1 x.2.1 x.2.2.1 x.2.2.2.1 x.2.2.2.2.1 x.2.2.2.2.2.1⟩
abbrev S4 (δ : Type) : Type := ByteArray → Int → Int → Int → Int → Option δ
abbrev A_4 {δ : Type} (s : S4 δ) : Arm δ := ⟨[.d .str, .d (.int .i64), .d (.int .i64), .d (.int .i64), .d (.int .i64)], [], fun x y => s x.1 x.2.1 x.2.2.1 x.2.2.2.1 x.2.2.2.2.1⟩
def sg0 (s : S0 R) : Seg := mkSg [4, 1, 0, 1, 1, 1, 1, 1] [] [0, 5, 6, 7, 8] [A_0 s] e
def sg1 (s : S1 R) : Seg := mkSg [4, 1, 0, 1, 1, 1, 1, 1, 1, 1] [] [0, 5, 6, 7, 9] [A_1 s] e
def sg2 (s : S2 R) : Seg := mkSg [1, 0, 1, 1, 4, 0, 1, 5, 4, 1, 0, 1, 1, 1, 1, 1, 1, 1] [] [0, 5, 6, 7, 9, 10, 60] [A_2 s] e
def sg3 (s : S3 R) : Seg := mkSg [1, 1, 1, 4, 0, 1, 5, 4, 1, 0, 1, 1, 1, 1, 1, 1, 1] [] [0, 5, 6, 7, 9, 10] [A_3 s] e
def sg4 (s : S4 R) : Seg := mkSg [1, 1, 5, 4, 1, 0, 1, 1, 1, 1, 1, 1, 1] [] [0, 5, 6, 7, 9] [A_4 s] e
section
variable {β : Type} (g141 : r01_lead.G) (g142 : r01_among.G) (s0 : S0 R) (s1 : S1 R) (s2 : S2 R) (s3 : S3 R) (s4 : S4 R)
noncomputable abbrev env : FEnv := mkEnv prog f137 [(141, r01_lead.ct g141), (142, r01_among.ct g142)] 0 [] [sg0 s0, sg1 s1, sg2 s2, sg3 s3, sg4 s4]
def c (ret : R → Option β) (a0 : ByteArray) : Option β := (bif ((a0.size : Int) == (0 : Int)) then (ret ((0 : Int), (0 : Int), (3 : Int))) else (bif (true && (decide ((0 : Int) < (a0.size : Int)))) then ((g141 (IntKind.wrap .i64 (bt a0 (0 : Int)))).bind fun r0 => (bif (r0.1 == (0 : Int)) then (ret ((0 : Int), (0 : Int), (7 : Int))) else ((s0 a0 r0.1 r0.2 (1 : Int) (1 : Int)).bind ret))) else none))
def s0c (ret : R → Option β) (x0 : ByteArray) (x1 x2 : Int) (x3 x4 : Int) : Option β := (bif (decide (x4 < x1)) then ((s0 x0 x1 x2 (IntKind.wrap .i64 (x3 * (64 : Int))) (IntKind.wrap .i64 (x4 + (1 : Int)))).bind ret) else ((g142 (IntKind.wrap .i64 (x2 * x3)) (IntKind.wrap .i64 ((IntKind.wrap .i64 ((IntKind.wrap .i64 (x2 * x3)) + x3)) - (1 : Int))) x1).bind fun r0 => (bif (!r0) then (ret ((0 : Int), (0 : Int), (7 : Int))) else ((s1 x0 x1 x2 x3 (1 : Int)).bind ret))))
def s1c (ret : R → Option β) (x0 : ByteArray) (x1 x2 : Int) (x3 x4 : Int) : Option β := (bif (decide (x4 < x1)) then (bif (decide (x4 ≥ (x0.size : Int))) then (ret ((0 : Int), (0 : Int), (3 : Int))) else (bif ((decide ((0 : Int) ≤ x4)) && (decide (x4 < (x0.size : Int)))) then (bif (decide ((IntKind.wrap .i64 (bt x0 x4)) < (128 : Int))) then ((s2 x0 x1 x2 x3 x4 (IntKind.wrap .i64 (bt x0 x4)) true).bind ret) else ((s2 x0 x1 x2 x3 x4 (IntKind.wrap .i64 (bt x0 x4)) (decide ((IntKind.wrap .i64 (bt x0 x4)) > (191 : Int)))).bind ret)) else none)) else (ret (x2, x1, (0 : Int))))
def s2c (ret : R → Option β) (x0 : ByteArray) (x1 x2 : Int) (x3 x4 x5 : Int) (x6 : Bool) : Option β := (bif x6 then (ret ((0 : Int), (0 : Int), (7 : Int))) else ((s3 x0 x1 x2 x3 x4 x5).bind ret))
def s3c (ret : R → Option β) (x0 : ByteArray) (x1 x2 : Int) (x3 x4 x5 : Int) : Option β := ((g142 (IntKind.wrap .i64 ((IntKind.wrap .i64 ((IntKind.wrap .i64 ((IntKind.wrap .i64 (x2 * (64 : Int))) + x5)) - (128 : Int))) * (IntKind.wrap .i64 (Int.tdiv x3 (64 : Int))))) (IntKind.wrap .i64 ((IntKind.wrap .i64 ((IntKind.wrap .i64 ((IntKind.wrap .i64 ((IntKind.wrap .i64 ((IntKind.wrap .i64 (x2 * (64 : Int))) + x5)) - (128 : Int))) * (IntKind.wrap .i64 (Int.tdiv x3 (64 : Int))))) + (IntKind.wrap .i64 (Int.tdiv x3 (64 : Int))))) - (1 : Int))) x1).bind fun r0 => (bif (!r0) then (ret ((0 : Int), (0 : Int), (7 : Int))) else ((s4 x0 x1 (IntKind.wrap .i64 ((IntKind.wrap .i64 ((IntKind.wrap .i64 (x2 * (64 : Int))) + x5)) - (128 : Int))) (IntKind.wrap .i64 (Int.tdiv x3 (64 : Int))) x4).bind ret)))
def s4c (ret : R → Option β) (x0 : ByteArray) (x1 x2 : Int) (x3 x4 : Int) : Option β := ((s1 x0 x1 x2 x3 (IntKind.wrap .i64 (x4 + (1 : Int)))).bind ret)
variable {g141} {g142} {s0} {s1} {s2} {s3} {s4}
theorem ev : EvA (env g141 g142 s0 s1 s2 s3 s4) [] [0] e (A (c g141 s0 some)) := fun x y => Eq.trans (b := (A (c g141 s0 fun r => some (e r))).G x y) (by kernel_rfl) (by simp only [A, c, bo, so, oa, os, on, ofs])
theorem s0_ev : EvA (env g141 g142 s0 s1 s2 s3 s4) [4, 1, 0, 1, 1, 1, 1, 1] [0, 5, 6, 7, 8] e (A_0 (s0c g142 s0 s1 some)) := fun x y => Eq.trans (b := (A_0 (s0c g142 s0 s1 fun r => some (e r))).G x y) (by kernel_rfl) (by simp only [A_0, s0c, bo, so, oa, os, on, ofs])
theorem s1_ev : EvA (env g141 g142 s0 s1 s2 s3 s4) [4, 1, 0, 1, 1, 1, 1, 1, 1, 1] [0, 5, 6, 7, 9] e (A_1 (s1c s2 some)) := fun x y => Eq.trans (b := (A_1 (s1c s2 fun r => some (e r))).G x y) (by kernel_rfl) (by simp only [A_1, s1c, bo, so, oa, os, on, ofs])
theorem s2_ev : EvA (env g141 g142 s0 s1 s2 s3 s4) [1, 0, 1, 1, 4, 0, 1, 5, 4, 1, 0, 1, 1, 1, 1, 1, 1, 1] [0, 5, 6, 7, 9, 10, 60] e (A_2 (s2c s3 some)) := fun x y => Eq.trans (b := (A_2 (s2c s3 fun r => some (e r))).G x y) (by kernel_rfl) (by simp only [A_2, s2c, bo, so, oa, os, on, ofs])
theorem s3_ev : EvA (env g141 g142 s0 s1 s2 s3 s4) [1, 1, 1, 4, 0, 1, 5, 4, 1, 0, 1, 1, 1, 1, 1, 1, 1] [0, 5, 6, 7, 9, 10] e (A_3 (s3c g142 s4 some)) := fun x y => Eq.trans (b := (A_3 (s3c g142 s4 fun r => some (e r))).G x y) (by kernel_rfl) (by simp only [A_3, s3c, bo, so, oa, os, on, ofs])
theorem s4_ev : EvA (env g141 g142 s0 s1 s2 s3 s4) [1, 1, 5, 4, 1, 0, 1, 1, 1, 1, 1, 1, 1] [0, 5, 6, 7, 9] e (A_4 (s4c s1 some)) := fun x y => Eq.trans (b := (A_4 (s4c s1 fun r => some (e r))).G x y) (by kernel_rfl) (by simp only [A_4, s4c, bo, so, oa, os, on, ofs])
end
mutual
def s0 : Nat → S0 R
 | 0, _, _, _, _, _ => none
 | k + 1, x0, x1, x2, x3, x4 => s0c (r01_among.f k) (s0 k) (s1 k) some x0 x1 x2 x3 x4
def s1 : Nat → S1 R
 | 0, _, _, _, _, _ => none
 | k + 1, x0, x1, x2, x3, x4 => s1c (s2 k) some x0 x1 x2 x3 x4
def s2 : Nat → S2 R
 | 0, _, _, _, _, _, _, _ => none
 | k + 1, x0, x1, x2, x3, x4, x5, x6 => s2c (s3 k) some x0 x1 x2 x3 x4 x5 x6
def s3 : Nat → S3 R
 | 0, _, _, _, _, _, _ => none
 | k + 1, x0, x1, x2, x3, x4, x5 => s3c (r01_among.f k) (s4 k) some x0 x1 x2 x3 x4 x5
def s4 : Nat → S4 R
 | 0, _, _, _, _, _ => none
 | k + 1, x0, x1, x2, x3, x4 => s4c (s1 k) some x0 x1 x2 x3 x4
end
def f (k : Nat) (a0 : ByteArray) : Option R := c (r01_lead.f k) (s0 k) some a0
noncomputable abbrev E (k : Nat) : FEnv := env (r01_lead.f k) (r01_among.f k) (s0 k) (s1 k) (s2 k) (s3 k) (s4 k)
theorem hE (k : Nat) : EnvOK (E k).toEnv := ctsOK (Lc (r01_lead.ok k) (Lc (r01_among.ok k) L0))
theorem sk : ∀ k, ∀ s ∈ [sg0 (s0 k), sg1 (s1 k), sg2 (s2 k), sg3 (s3 k), sg4 (s4 k)], SegB prog f137 0 s
 | 0 => (Lc (sn (Lc (fun _ _ => rfl) L0)) (Lc (sn (Lc (fun _ _ => rfl) L0)) (Lc (sn (Lc (fun _ _ => rfl) L0)) (Lc (sn (Lc (fun _ _ => rfl) L0)) (Lc (sn (Lc (fun _ _ => rfl) L0)) L0)))))
 | k + 1 => (Lc (sg_ok (hE k) (sk k) (Lc s0_ev L0)) (Lc (sg_ok (hE k) (sk k) (Lc s1_ev L0)) (Lc (sg_ok (hE k) (sk k) (Lc s2_ev L0)) (Lc (sg_ok (hE k) (sk k) (Lc s3_ev L0)) (Lc (sg_ok (hE k) (sk k) (Lc s4_ev L0)) L0)))))
theorem ok (k : Nat) : CtOK prog 137 (ct (f k)) := fn_ok func137 rfl (by decide) (hE k) (sk k) (Lc ev L0)
end r01_Next
namespace r01_Count
def e (r : Int) : Res := ⟨.v (.one (.d (.int .i64) r)), []⟩
abbrev T (δ : Type) : Type := ByteArray → Option δ
abbrev A {δ : Type} (g : T δ) : Arm δ := ⟨[.d .str], [], fun x y => g x.1⟩
abbrev G : Type := T Int
def ct (g : G) : Ct := mkCt 0 [] [A g] e
abbrev S0 (δ : Type) : Type := ByteArray → Int → Int → Option δ
abbrev A_0 {δ : Type} (s : S0 δ) : Arm δ := ⟨[.d .str, .d (.int .i64), .d (.int .i64)], [], fun x y => s x.1 x.2.1 x.2.2.1⟩
def sg0 (s : S0 Int) : Seg := mkSg [4, 1, 0, 1, 1] [] [0, 3, 4] [A_0 s] e
section
variable {β : Type} (g137 : r01_Next.G) (s0 : S0 Int)
noncomputable abbrev env : FEnv := mkEnv prog f124 [(137, r01_Next.ct g137)] 0 [] [sg0 s0]
def c (ret : Int → Option β) (a0 : ByteArray) : Option β := ((s0 a0 (0 : Int) (0 : Int)).bind ret)
def s0c (ret : Int → Option β) (x0 : ByteArray) (x1 x2 : Int) : Option β := (bif (decide (x2 < (x0.size : Int))) then (bif (((decide ((0 : Int) ≤ x2)) && (decide (x2 ≤ (x0.size : Int)))) && (decide ((x0.size : Int) ≤ (x0.size : Int)))) then ((g137 (ByteArray.extract x0 (Int.toNat x2) (Int.toNat (x0.size : Int)))).bind fun r0 => (bif (r0.2.2 != (0 : Int)) then (ret ((-1 : Int))) else ((s0 x0 (IntKind.wrap .i64 (x1 + (1 : Int))) (IntKind.wrap .i64 (x2 + r0.2.1))).bind ret))) else none) else (ret (x1)))
variable {g137} {s0}
theorem ev : EvA (env g137 s0) [] [0] e (A (c s0 some)) := fun x y => Eq.trans (b := (A (c s0 fun r => some (e r))).G x y) (by kernel_rfl) (by simp only [A, c, bo, so, oa, os, on, ofs])
theorem s0_ev : EvA (env g137 s0) [4, 1, 0, 1, 1] [0, 3, 4] e (A_0 (s0c g137 s0 some)) := fun x y => Eq.trans (b := (A_0 (s0c g137 s0 fun r => some (e r))).G x y) (by kernel_rfl) (by simp only [A_0, s0c, bo, so, oa, os, on, ofs])
end
def s0 : Nat → S0 Int
 | 0, _, _, _ => none
 | k + 1, x0, x1, x2 => s0c (r01_Next.f k) (s0 k) some x0 x1 x2
def f (k : Nat) (a0 : ByteArray) : Option Int := c (s0 k) some a0
noncomputable abbrev E (k : Nat) : FEnv := env (r01_Next.f k) (s0 k)
theorem hE (k : Nat) : EnvOK (E k).toEnv := ctsOK (Lc (r01_Next.ok k) L0)
theorem sk : ∀ k, ∀ s ∈ [sg0 (s0 k)], SegB prog f124 0 s
 | 0 => (Lc (sn (Lc (fun _ _ => rfl) L0)) L0)
 | k + 1 => (Lc (sg_ok (hE k) (sk k) (Lc s0_ev L0)) L0)
theorem ok (k : Nat) : CtOK prog 124 (ct (f k)) := fn_ok func124 rfl (by decide) (hE k) (sk k) (Lc ev L0)
end r01_Count
namespace r01_Valid
def e (r : Bool) : Res := ⟨.v (.one (.d .bool r)), []⟩
abbrev T (δ : Type) : Type := ByteArray → Option δ
abbrev A {δ : Type} (g : T δ) : Arm δ := ⟨[.d .str], [], fun x y => g x.1⟩
abbrev G : Type := T Bool
def ct (g : G) : Ct := mkCt 0 [] [A g] e
section
variable {β : Type} (g124 : r01_Count.G)
noncomputable abbrev env : FEnv := mkEnv prog f111 [(124, r01_Count.ct g124)] 0 [] []
def c (ret : Bool → Option β) (a0 : ByteArray) : Option β := ((g124 a0).bind fun r0 => (ret ((decide (r0 ≥ (0 : Int))))))
variable {g124}
theorem ev : EvA (env g124) [] [0] e (A (c g124 some)) := fun x y => Eq.trans (b := (A (c g124 fun r => some (e r))).G x y) (by kernel_rfl) (by simp only [A, c, bo, so, oa, os, on, ofs])
end
def f (k : Nat) (a0 : ByteArray) : Option Bool := c (r01_Count.f k) some a0
noncomputable abbrev E (k : Nat) : FEnv := env (r01_Count.f k) 
theorem hE (k : Nat) : EnvOK (E k).toEnv := ctsOK (Lc (r01_Count.ok k) L0)
theorem ok (k : Nat) : CtOK prog 111 (ct (f k)) := fn_ok func111 rfl (by decide) (hE k) L0 (Lc ev L0)
end r01_Valid
namespace r04_Check
def e (r : Int) : Res := ⟨.v (.one (.d (.int .i64) r)), []⟩
abbrev T (δ : Type) : Type := Int → Int → Int → ByteArray → Option δ
abbrev A {δ : Type} (g : T δ) : Arm δ := ⟨[.s T_api_Value], [], fun x y => g x.1.1.1 x.1.1.2.1 x.1.1.2.2.1 x.1.1.2.2.2.1⟩
abbrev G : Type := T Int
def ct (g : G) : Ct := mkCt 0 [] [A g] e
abbrev S0 (δ : Type) : Type := Bool → Int → Int → Int → ByteArray → Option δ
abbrev A_0 {δ : Type} (s : S0 δ) : Arm δ := ⟨[.k (.ptr 0 0), .d .bool], [.box [.g T_api_Value]], fun x y => s x.2.1 y.1.1.1 y.1.1.2.1 y.1.1.2.2.1 y.1.1.2.2.2.1⟩
abbrev S1 (δ : Type) : Type := Bool → Bool → Int → Int → Int → ByteArray → Option δ
abbrev A_1 {δ : Type} (s : S1 δ) : Arm δ := ⟨[.k (.ptr 0 0), .d .bool, .d .bool], [.box [.g T_api_Value]], fun x y => s x.2.1 x.2.2.1 y.1.1.1 y.1.1.2.1 y.1.1.2.2.1 y.1.1.2.2.2.1⟩
abbrev S2 (δ : Type) : Type := Bool → Bool → Bool → Int → Int → Int → ByteArray → Option δ
abbrev A_2 {δ : Type} (s : S2 δ) : Arm δ := ⟨[.k (.ptr 0 0), .d .bool, .d .bool, .d .bool], [.box [.g T_api_Value]], fun x y => s x.2.1 x.2.2.1 x.2.2.2.1 y.1.1.1 y.1.1.2.1 y.1.1.2.2.1 y.1.1.2.2.2.1⟩
abbrev S3 (δ : Type) : Type := Bool → Int → Int → Int → ByteArray → Option δ
abbrev A_3 {δ : Type} (s : S3 δ) : Arm δ := ⟨[.k (.ptr 0 0), .d .bool], [.box [.g T_api_Value]], fun x y => s x.2.1 y.1.1.1 y.1.1.2.1 y.1.1.2.2.1 y.1.1.2.2.2.1⟩
abbrev S4 (δ : Type) : Type := Bool → Int → Int → Int → ByteArray → Option δ
abbrev A_4 {δ : Type} (s : S4 δ) : Arm δ := ⟨[.k (.ptr 0 0), .d .bool], [.box [.g T_api_Value]], fun x y => s x.2.1 y.1.1.1 y.1.1.2.1 y.1.1.2.2.1 y.1.1.2.2.2.1⟩
abbrev S5 (δ : Type) : Type := Bool → Int → Int → Int → ByteArray → Option δ
abbrev A_5 {δ : Type} (s : S5 δ) : Arm δ := ⟨[.k (.ptr 0 0), .d .bool], [.box [.g T_api_Value]], fun x y => s x.2.1 y.1.1.1 y.1.1.2.1 y.1.1.2.2.1 y.1.1.2.2.2.1⟩
def sg0 (s : S0 Int) : Seg := mkSg [1, 1] [] [1, 3] [A_0 s] e
def sg1 (s : S1 Int) : Seg := mkSg [1, 1, 1] [] [1, 3, 4] [A_1 s] e
def sg2 (s : S2 Int) : Seg := mkSg [1, 4, 0, 1, 1, 1] [] [1, 3, 4, 21] [A_2 s] e
def sg3 (s : S3 Int) : Seg := mkSg [1, 3, 1, 4, 0, 1, 1, 1] [] [1, 30] [A_3 s] e
def sg4 (s : S4 Int) : Seg := mkSg [1, 3, 1, 3, 1, 4, 0, 1, 1, 1] [] [1, 57] [A_4 s] e
def sg5 (s : S5 Int) : Seg := mkSg [1, 3, 1, 3, 1, 3, 1, 4, 0, 1, 1, 1] [] [1, 71] [A_5 s] e
section
variable {β : Type} (g110 : r02_Canon.G) (g111 : r01_Valid.G) (s0 : S0 Int) (s1 : S1 Int) (s2 : S2 Int) (s3 : S3 Int) (s4 : S4 Int) (s5 : S5 Int)
noncomputable abbrev env : FEnv := mkEnv prog f90 [(110, r02_Canon.ct g110), (111, r01_Valid.ct g111)] 0 [] [sg0 s0, sg1 s1, sg2 s2, sg3 s3, sg4 s4, sg5 s5]
def c (ret : Int → Option β) (a0 a1 a2 : Int) (a3 : ByteArray) : Option β := (bif (a0 == (1 : Int)) then ((s0 true a0 a1 a2 a3).bind ret) else ((s0 (a0 == (2 : Int)) a0 a1 a2 a3).bind ret))
def s0c (ret : Int → Option β) (x0 : Bool) (x1 x2 x3 : Int) (x4 : ByteArray) : Option β := (bif (x1 == (4 : Int)) then ((s1 x0 true x1 x2 x3 x4).bind ret) else ((s1 x0 (x1 == (5 : Int)) x1 x2 x3 x4).bind ret))
def s1c (ret : Int → Option β) (x0 x1 : Bool) (x2 x3 x4 : Int) (x5 : ByteArray) : Option β := (bif (decide (x2 < (0 : Int))) then ((s2 x0 x1 true x2 x3 x4 x5).bind ret) else ((s2 x0 x1 (decide (x2 > (5 : Int))) x2 x3 x4 x5).bind ret))
def s2c (ret : Int → Option β) (x0 x1 x2 : Bool) (x3 x4 x5 : Int) (x6 : ByteArray) : Option β := (bif x2 then (ret ((5 : Int))) else (bif (x4 != (0 : Int)) then (bif (!x0) then ((s3 true x3 x4 x5 x6).bind ret) else (bif (x5 != (0 : Int)) then (bif (x3 != (3 : Int)) then ((s3 true x3 x4 x5 x6).bind ret) else (bif (!(x6.toList == (ByteArray.toList (ByteArray.mk (List.toArray []))))) then ((s3 (!x1) x3 x4 x5 x6).bind ret) else ((s3 false x3 x4 x5 x6).bind ret))) else (bif (!(x6.toList == (ByteArray.toList (ByteArray.mk (List.toArray []))))) then ((s3 (!x1) x3 x4 x5 x6).bind ret) else ((s3 false x3 x4 x5 x6).bind ret)))) else (bif (x5 != (0 : Int)) then (bif (x3 != (3 : Int)) then ((s3 true x3 x4 x5 x6).bind ret) else (bif (!(x6.toList == (ByteArray.toList (ByteArray.mk (List.toArray []))))) then ((s3 (!x1) x3 x4 x5 x6).bind ret) else ((s3 false x3 x4 x5 x6).bind ret))) else (bif (!(x6.toList == (ByteArray.toList (ByteArray.mk (List.toArray []))))) then ((s3 (!x1) x3 x4 x5 x6).bind ret) else ((s3 false x3 x4 x5 x6).bind ret)))))
def s3c (ret : Int → Option β) (x0 : Bool) (x1 x2 x3 : Int) (x4 : ByteArray) : Option β := (bif x0 then (ret ((4 : Int))) else (bif (x1 == (1 : Int)) then (bif (x2 != (0 : Int)) then ((s4 (x2 != (1 : Int)) x1 x2 x3 x4).bind ret) else ((s4 false x1 x2 x3 x4).bind ret)) else ((s4 false x1 x2 x3 x4).bind ret)))
def s4c (ret : Int → Option β) (x0 : Bool) (x1 x2 x3 : Int) (x4 : ByteArray) : Option β := (bif x0 then (ret ((6 : Int))) else (bif (x1 == (3 : Int)) then ((g110 x3).bind fun r0 => ((s5 (r0 != x3) x1 x2 x3 x4).bind ret)) else ((s5 false x1 x2 x3 x4).bind ret)))
def s5c (ret : Int → Option β) (x0 : Bool) (x1 x2 x3 : Int) (x4 : ByteArray) : Option β := (bif x0 then (ret ((4 : Int))) else (bif (decide ((x4.size : Int) > (64 : Int))) then (ret ((2 : Int))) else (bif (x1 == (5 : Int)) then ((g111 x4).bind fun r0 => (bif (!r0) then (ret ((7 : Int))) else (ret ((0 : Int))))) else (ret ((0 : Int))))))
variable {g110} {g111} {s0} {s1} {s2} {s3} {s4} {s5}
theorem ev : EvA (env g110 g111 s0 s1 s2 s3 s4 s5) [] [0] e (A (c s0 some)) := fun x y => Eq.trans (b := (A (c s0 fun r => some (e r))).G x y) (by kernel_rfl) (by simp only [A, c, bo, so, oa, os, on, ofs])
theorem s0_ev : EvA (env g110 g111 s0 s1 s2 s3 s4 s5) [1, 1] [1, 3] e (A_0 (s0c s1 some)) := fun x y => Eq.trans (b := (A_0 (s0c s1 fun r => some (e r))).G x y) (by kernel_rfl) (by simp only [A_0, s0c, bo, so, oa, os, on, ofs])
theorem s1_ev : EvA (env g110 g111 s0 s1 s2 s3 s4 s5) [1, 1, 1] [1, 3, 4] e (A_1 (s1c s2 some)) := fun x y => Eq.trans (b := (A_1 (s1c s2 fun r => some (e r))).G x y) (by kernel_rfl) (by simp only [A_1, s1c, bo, so, oa, os, on, ofs])
theorem s2_ev : EvA (env g110 g111 s0 s1 s2 s3 s4 s5) [1, 4, 0, 1, 1, 1] [1, 3, 4, 21] e (A_2 (s2c s3 some)) := fun x y => Eq.trans (b := (A_2 (s2c s3 fun r => some (e r))).G x y) (by kernel_rfl) (by simp only [A_2, s2c, bo, so, oa, os, on, ofs])
theorem s3_ev : EvA (env g110 g111 s0 s1 s2 s3 s4 s5) [1, 3, 1, 4, 0, 1, 1, 1] [1, 30] e (A_3 (s3c s4 some)) := fun x y => Eq.trans (b := (A_3 (s3c s4 fun r => some (e r))).G x y) (by kernel_rfl) (by simp only [A_3, s3c, bo, so, oa, os, on, ofs])
theorem s4_ev : EvA (env g110 g111 s0 s1 s2 s3 s4 s5) [1, 3, 1, 3, 1, 4, 0, 1, 1, 1] [1, 57] e (A_4 (s4c g110 s5 some)) := fun x y => Eq.trans (b := (A_4 (s4c g110 s5 fun r => some (e r))).G x y) (by kernel_rfl) (by simp only [A_4, s4c, bo, so, oa, os, on, ofs])
theorem s5_ev : EvA (env g110 g111 s0 s1 s2 s3 s4 s5) [1, 3, 1, 3, 1, 3, 1, 4, 0, 1, 1, 1] [1, 71] e (A_5 (s5c g111 some)) := fun x y => Eq.trans (b := (A_5 (s5c g111 fun r => some (e r))).G x y) (by kernel_rfl) (by simp only [A_5, s5c, bo, so, oa, os, on, ofs])
end
mutual
def s0 : Nat → S0 Int
 | 0, _, _, _, _, _ => none
 | k + 1, x0, x1, x2, x3, x4 => s0c (s1 k) some x0 x1 x2 x3 x4
def s1 : Nat → S1 Int
 | 0, _, _, _, _, _, _ => none
 | k + 1, x0, x1, x2, x3, x4, x5 => s1c (s2 k) some x0 x1 x2 x3 x4 x5
def s2 : Nat → S2 Int
 | 0, _, _, _, _, _, _, _ => none
 | k + 1, x0, x1, x2, x3, x4, x5, x6 => s2c (s3 k) some x0 x1 x2 x3 x4 x5 x6
def s3 : Nat → S3 Int
 | 0, _, _, _, _, _ => none
 | k + 1, x0, x1, x2, x3, x4 => s3c (s4 k) some x0 x1 x2 x3 x4
def s4 : Nat → S4 Int
 | 0, _, _, _, _, _ => none
 | k + 1, x0, x1, x2, x3, x4 => s4c (r02_Canon.f k) (s5 k) some x0 x1 x2 x3 x4
def s5 : Nat → S5 Int
 | 0, _, _, _, _, _ => none
 | k + 1, x0, x1, x2, x3, x4 => s5c (r01_Valid.f k) some x0 x1 x2 x3 x4
end
def f (k : Nat) (a0 a1 a2 : Int) (a3 : ByteArray) : Option Int := c (s0 k) some a0 a1 a2 a3
noncomputable abbrev E (k : Nat) : FEnv := env (r02_Canon.f k) (r01_Valid.f k) (s0 k) (s1 k) (s2 k) (s3 k) (s4 k) (s5 k)
theorem hE (k : Nat) : EnvOK (E k).toEnv := ctsOK (Lc (r02_Canon.ok k) (Lc (r01_Valid.ok k) L0))
theorem sk : ∀ k, ∀ s ∈ [sg0 (s0 k), sg1 (s1 k), sg2 (s2 k), sg3 (s3 k), sg4 (s4 k), sg5 (s5 k)], SegB prog f90 0 s
 | 0 => (Lc (sn (Lc (fun _ _ => rfl) L0)) (Lc (sn (Lc (fun _ _ => rfl) L0)) (Lc (sn (Lc (fun _ _ => rfl) L0)) (Lc (sn (Lc (fun _ _ => rfl) L0)) (Lc (sn (Lc (fun _ _ => rfl) L0)) (Lc (sn (Lc (fun _ _ => rfl) L0)) L0))))))
 | k + 1 => (Lc (sg_ok (hE k) (sk k) (Lc s0_ev L0)) (Lc (sg_ok (hE k) (sk k) (Lc s1_ev L0)) (Lc (sg_ok (hE k) (sk k) (Lc s2_ev L0)) (Lc (sg_ok (hE k) (sk k) (Lc s3_ev L0)) (Lc (sg_ok (hE k) (sk k) (Lc s4_ev L0)) (Lc (sg_ok (hE k) (sk k) (Lc s5_ev L0)) L0))))))
theorem ok (k : Nat) : CtOK prog 90 (ct (f k)) := fn_ok func90 rfl (by decide) (hE k) (sk k) (Lc ev L0)
end r04_Check
namespace r36_digit
def e (r : ByteArray) : Res := ⟨.v (.one (.d .str r)), []⟩
abbrev T (δ : Type) : Type := Int → Option δ
abbrev A {δ : Type} (g : T δ) : Arm δ := ⟨[.d (.int .i64)], [], fun x y => g x.1⟩
abbrev G : Type := T ByteArray
def ct (g : G) : Ct := mkCt 0 [] [A g] e
section
variable {β : Type} 
noncomputable abbrev env : FEnv := mkEnv prog f91 [] 0 [] []
def c (ret : ByteArray → Option β) (a0 : Int) : Option β := (bif (((decide ((0 : Int) ≤ a0)) && (decide (a0 ≤ (IntKind.wrap .i64 (a0 + (1 : Int)))))) && (decide ((IntKind.wrap .i64 (a0 + (1 : Int))) ≤ (16 : Int)))) then (ret ((ByteArray.extract (ByteArray.mk (List.toArray [48, 49, 50, 51, 52, 53, 54, 55, 56, 57, 97, 98, 99, 100, 101, 102])) (Int.toNat a0) (Int.toNat (IntKind.wrap .i64 (a0 + (1 : Int))))))) else none)
theorem ev : EvA (env) [] [0] e (A (c some)) := fun x y => Eq.trans (b := (A (c fun r => some (e r))).G x y) (by kernel_rfl) (by simp only [A, c, bo, so, oa, os, on, ofs])
end
def f (k : Nat) (a0 : Int) : Option ByteArray := c  some a0
noncomputable abbrev E (k : Nat) : FEnv := env  
theorem hE (k : Nat) : EnvOK (E k).toEnv := ctsOK L0
theorem ok (k : Nat) : CtOK prog 91 (ct (f k)) := fn_ok func91 rfl (by decide) (hE k) L0 (Lc ev L0)
end r36_digit
end Go.Proofs.YtimadphjdkjgaaaGreatDoor.Aev
