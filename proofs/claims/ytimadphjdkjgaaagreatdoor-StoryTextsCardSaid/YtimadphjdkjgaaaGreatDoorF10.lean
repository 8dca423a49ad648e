import Derived.Test.YtimadphjdkjgaaaGreatDoorTys
import Derived.Test.YtimadphjdkjgaaaGreatDoorProg
import Derived.Laws.Externs
import Derived.Lib.Bytealg
import Derived.Test.YtimadphjdkjgaaaGreatDoorF7
import Derived.Test.YtimadphjdkjgaaaGreatDoorF9
/- By a program of this session (AEV): functions of the program as plain functions, and that the machine does what they say. -/
namespace Go.Proofs.YtimadphjdkjgaaaGreatDoor.Aev
set_option linter.unusedVariables false
set_option linter.unusedSimpArgs false
set_option maxRecDepth 100000
set_option maxHeartbeats 4000000
open Go Go.Proofs.Tryz
namespace r37_op
abbrev R : Type := ByteArray × Int
def e (r : R) : Res := ⟨.tup [(.one (.d .str r.1)), (.one (.d (.int .i64) r.2))], []⟩
abbrev T (δ : Type) : Type := D_api_Op → Option δ
abbrev A {δ : Type} (g : T δ) : Arm δ := ⟨[.s T_api_Op], [], fun x y => g x.1.1⟩
abbrev G : Type := T R
def ct (g : G) : Ct := mkCt 0 [] [A g] e
abbrev S0 (δ : Type) : Type := Bool → D_api_Op → Option δ
abbrev A_0 {δ : Type} (s : S0 δ) : Arm δ := ⟨[.k (.ptr 0 0), .d .bool], [.box [.g T_api_Op]], fun x y => s x.2.1 y.1.1⟩
abbrev S1 (δ : Type) : Type := Bool → D_api_Op → Option δ
abbrev A_1 {δ : Type} (s : S1 δ) : Arm δ := ⟨[.k (.ptr 0 0), .d .bool], [.box [.g T_api_Op]], fun x y => s x.2.1 y.1.1⟩
abbrev S2 (δ : Type) : Type := D_api_Op → Option δ
abbrev A_2 {δ : Type} (s : S2 δ) : Arm δ := ⟨[.k (.ptr 0 0)], [.box [.g T_api_Op]], fun x y => s y.1.1⟩
def sg0 (s : S0 R) : Seg := mkSg [1, 3, 1, 3, 1, 4, 0, 1] [] [1, 30] [A_0 s] e
def sg1 (s : S1 R) : Seg := mkSg [1, 3, 1, 3, 1, 3, 1, 4, 0, 1] [] [1, 42] [A_1 s] e
def sg2 (s : S2 R) : Seg := mkSg [1, 1] [] [1] [A_2 s] e
section
variable {β : Type} (g16 : r37_Change.G) (g36 : r37_named.G) (g61 : r37_scan.G) (g62 : r37_word.G) (g63 : r37_values.G) (s0 : S0 R) (s1 : S1 R) (s2 : S2 R)
noncomputable abbrev env : FEnv := mkEnv prog f33 [(16, r37_Change.ct g16), (36, r37_named.ct g36), (61, r37_scan.ct g61), (62, r37_word.ct g62), (63, r37_values.ct g63)] 0 [] [sg0 s0, sg1 s1, sg2 s2]
def c (ret : R → Option β) (a0 : D_api_Op) : Option β := (bif (a0.1 == (2 : Int)) then ((g61 a0).bind fun r0 => (ret (r0.1, r0.2))) else (bif (a0.1 == (6 : Int)) then ((g16 a0.2.2.2.2.2.2.1).bind fun r1 => (bif (true && (decide (r1.1.size ≤ (4611686018427387903 : Nat)))) then (ret (((ByteArray.mk (List.toArray [99, 104, 97, 110, 103, 101, 32])) ++ r1.1), r1.2)) else none)) else (bif (decide (a0.1 ≥ (7 : Int))) then ((s0 (decide (a0.1 ≤ (9 : Int))) a0).bind ret) else ((s0 false a0).bind ret))))
def s0c (ret : R → Option β) (x0 : Bool) (x1 : D_api_Op) : Option β := (bif x0 then ((g62 x1.1).bind fun r0 => (ret (r0, (0 : Int)))) else (bif (decide (x1.1 < (1 : Int))) then ((s1 true x1).bind ret) else ((s1 (decide (x1.1 > (9 : Int))) x1).bind ret)))
def s1c (ret : R → Option β) (x0 : Bool) (x1 : D_api_Op) : Option β := (bif x0 then (ret ((ByteArray.mk (List.toArray [])), (1 : Int))) else ((s2 x1).bind ret))
def s2c (ret : R → Option β) (x0 : D_api_Op) : Option β := ((g62 x0.1).bind fun r0 => ((g36 r0 [x0.2.1]).bind fun r1 => (bif (r1.2 != (0 : Int)) then (ret ((ByteArray.mk (List.toArray [])), r1.2)) else ((g63 x0.2.2.1).bind fun r2 => (bif ((decide (r1.1.size ≤ (4611686018427387903 : Nat))) && (decide (r2.1.size ≤ (4611686018427387903 : Nat)))) then (ret ((r1.1 ++ r2.1), r2.2)) else none)))))
variable {g16} {g36} {g61} {g62} {g63} {s0} {s1} {s2}
theorem ev : EvA (env g16 g36 g61 g62 g63 s0 s1 s2) [] [0] e (A (c g16 g61 s0 some)) := fun x y => Eq.trans (b := (A (c g16 g61 s0 fun r => some (e r))).G x y) (by kernel_rfl) (by simp only [A, c, bo, so, oa, os, on, ofs])
theorem s0_ev : EvA (env g16 g36 g61 g62 g63 s0 s1 s2) [1, 3, 1, 3, 1, 4, 0, 1] [1, 30] e (A_0 (s0c g62 s1 some)) := fun x y => Eq.trans (b := (A_0 (s0c g62 s1 fun r => some (e r))).G x y) (by kernel_rfl) (by simp only [A_0, s0c, bo, so, oa, os, on, ofs])
theorem s1_ev : EvA (env g16 g36 g61 g62 g63 s0 s1 s2) [1, 3, 1, 3, 1, 3, 1, 4, 0, 1] [1, 42] e (A_1 (s1c s2 some)) := fun x y => Eq.trans (b := (A_1 (s1c s2 fun r => some (e r))).G x y) (by kernel_rfl) (by simp only [A_1, s1c, bo, so, oa, os, on, ofs])
theorem s2_ev : EvA (env g16 g36 g61 g62 g63 s0 s1 s2) [1, 1] [1] e (A_2 (s2c g36 g62 g63 some)) := fun x y => Eq.trans (b := (A_2 (s2c g36 g62 g63 fun r => some (e r))).G x y) (by kernel_rfl) (by simp only [A_2, s2c, bo, so, oa, os, on, ofs])
end
mutual
def s0 : Nat → S0 R
 | 0, _, _ => none
 | k + 1, x0, x1 => s0c (r37_word.f k) (s1 k) some x0 x1
def s1 : Nat → S1 R
 | 0, _, _ => none
 | k + 1, x0, x1 => s1c (s2 k) some x0 x1
def s2 : Nat → S2 R
 | 0, _ => none
 | k + 1, x0 => s2c (r37_named.f k) (r37_word.f k) (r37_values.f k) some x0
end
def f (k : Nat) (a0 : D_api_Op) : Option R := c (r37_Change.f k) (r37_scan.f k) (s0 k) some a0
noncomputable abbrev E (k : Nat) : FEnv := env (r37_Change.f k) (r37_named.f k) (r37_scan.f k) (r37_word.f k) (r37_values.f k) (s0 k) (s1 k) (s2 k)
theorem hE (k : Nat) : EnvOK (E k).toEnv := ctsOK (Lc (r37_Change.ok k) (Lc (r37_named.ok k) (Lc (r37_scan.ok k) (Lc (r37_word.ok k) (Lc (r37_values.ok k) L0)))))
theorem sk : ∀ k, ∀ s ∈ [sg0 (s0 k), sg1 (s1 k), sg2 (s2 k)], SegB prog f33 0 s
 | 0 => (Lc (sn (Lc (fun _ _ => rfl) L0)) (Lc (sn (Lc (fun _ _ => rfl) L0)) (Lc (sn (Lc (fun _ _ => rfl) L0)) L0)))
 | k + 1 => (Lc (sg_ok (hE k) (sk k) (Lc s0_ev L0)) (Lc (sg_ok (hE k) (sk k) (Lc s1_ev L0)) (Lc (sg_ok (hE k) (sk k) (Lc s2_ev L0)) L0)))
theorem ok (k : Nat) : CtOK prog 33 (ct (f k)) := fn_ok func33 rfl (by decide) (hE k) (sk k) (Lc ev L0)
end r37_op
namespace r37_Line
abbrev R : Type := ByteArray × Int
def e (r : R) : Res := ⟨.tup [(.one (.d .str r.1)), (.one (.d (.int .i64) r.2))], []⟩
abbrev T (δ : Type) : Type := D_api_Step → Option δ
abbrev A {δ : Type} (g : T δ) : Arm δ := ⟨[.s T_api_Step], [], fun x y => g x.1.1⟩
abbrev G : Type := T R
def ct (g : G) : Ct := mkCt 0 [] [A g] e
abbrev S0 (δ : Type) : Type := Bool → D_api_Step → Option δ
abbrev A_0 {δ : Type} (s : S0 δ) : Arm δ := ⟨[.k (.ptr 0 0), .d .bool], [.box [.g T_api_Step]], fun x y => s x.2.1 y.1.1⟩
abbrev S1 (δ : Type) : Type := D_api_Step → Option δ
abbrev A_1 {δ : Type} (s : S1 δ) : Arm δ := ⟨[.k (.ptr 0 0)], [.box [.g T_api_Step]], fun x y => s y.1.1⟩
def sg0 (s : S0 R) : Seg := mkSg [1, 3, 1, 3, 1, 3, 1, 3, 1, 4, 1, 0, 1] [] [1, 17] [A_0 s] e
def sg1 (s : S1 R) : Seg := mkSg [1, 1] [] [1] [A_1 s] e
section
variable {β : Type} (g32 : r37_small.G) (g33 : r37_op.G) (s0 : S0 R) (s1 : S1 R)
noncomputable abbrev env : FEnv := mkEnv prog f14 [(32, r37_small.ct g32), (33, r37_op.ct g33)] 0 [] [sg0 s0, sg1 s1]
def c (ret : R → Option β) (a0 : D_api_Step) : Option β := (bif (a0.1 == (3 : Int)) then (ret ((ByteArray.mk (List.toArray [109, 105, 103, 114, 97, 116, 101])), (0 : Int))) else (bif (a0.1 == (4 : Int)) then (ret ((ByteArray.mk (List.toArray [116, 105, 99, 107])), (0 : Int))) else (bif (a0.1 == (5 : Int)) then (ret ((ByteArray.mk (List.toArray [99, 111, 108, 108, 101, 99, 116])), (0 : Int))) else (bif (a0.1 == (6 : Int)) then (ret ((ByteArray.mk (List.toArray [102, 114, 101, 101])), (0 : Int))) else (bif (a0.1 == (1 : Int)) then ((s0 (a0.1 == (1 : Int)) a0).bind ret) else ((s0 (a0.1 == (2 : Int)) a0).bind ret))))))
def s0c (ret : R → Option β) (x0 : Bool) (x1 : D_api_Step) : Option β := (bif x0 then ((s1 x1).bind ret) else (ret ((ByteArray.mk (List.toArray [])), (1 : Int))))
def s1c (ret : R → Option β) (x0 : D_api_Step) : Option β := ((g32 x0.2.1).bind fun r0 => (bif (r0.2 != (0 : Int)) then (ret ((ByteArray.mk (List.toArray [])), r0.2)) else (bif (x0.1 == (2 : Int)) then (bif (true && (decide (r0.1.size ≤ (4611686018427387903 : Nat)))) then (ret (((ByteArray.mk (List.toArray [114, 117, 110])) ++ r0.1), (0 : Int))) else none) else ((g33 x0.2.2.1).bind fun r1 => (bif (r1.2 != (0 : Int)) then (ret ((ByteArray.mk (List.toArray [])), r1.2)) else (bif (true && (decide (r0.1.size ≤ (4611686018427387903 : Nat)))) then (bif ((decide ((ByteArray.size ((ByteArray.mk (List.toArray [97, 115, 107])) ++ r0.1)) ≤ (4611686018427387903 : Nat))) && true) then (bif ((decide ((ByteArray.size (((ByteArray.mk (List.toArray [97, 115, 107])) ++ r0.1) ++ (ByteArray.mk (List.toArray [32])))) ≤ (4611686018427387903 : Nat))) && (decide (r1.1.size ≤ (4611686018427387903 : Nat)))) then (ret (((((ByteArray.mk (List.toArray [97, 115, 107])) ++ r0.1) ++ (ByteArray.mk (List.toArray [32]))) ++ r1.1), (0 : Int))) else none) else none) else none))))))
variable {g32} {g33} {s0} {s1}
theorem ev : EvA (env g32 g33 s0 s1) [] [0] e (A (c s0 some)) := fun x y => Eq.trans (b := (A (c s0 fun r => some (e r))).G x y) (by kernel_rfl) (by simp only [A, c, bo, so, oa, os, on, ofs])
theorem s0_ev : EvA (env g32 g33 s0 s1) [1, 3, 1, 3, 1, 3, 1, 3, 1, 4, 1, 0, 1] [1, 17] e (A_0 (s0c s1 some)) := fun x y => Eq.trans (b := (A_0 (s0c s1 fun r => some (e r))).G x y) (by kernel_rfl) (by simp only [A_0, s0c, bo, so, oa, os, on, ofs])
theorem s1_ev : EvA (env g32 g33 s0 s1) [1, 1] [1] e (A_1 (s1c g32 g33 some)) := fun x y => Eq.trans (b := (A_1 (s1c g32 g33 fun r => some (e r))).G x y) (by kernel_rfl) (by simp only [A_1, s1c, bo, so, oa, os, on, ofs])
end
mutual
def s0 : Nat → S0 R
 | 0, _, _ => none
 | k + 1, x0, x1 => s0c (s1 k) some x0 x1
def s1 : Nat → S1 R
 | 0, _ => none
 | k + 1, x0 => s1c (r37_small.f k) (r37_op.f k) some x0
end
def f (k : Nat) (a0 : D_api_Step) : Option R := c (s0 k) some a0
noncomputable abbrev E (k : Nat) : FEnv := env (r37_small.f k) (r37_op.f k) (s0 k) (s1 k)
theorem hE (k : Nat) : EnvOK (E k).toEnv := ctsOK (Lc (r37_small.ok k) (Lc (r37_op.ok k) L0))
theorem sk : ∀ k, ∀ s ∈ [sg0 (s0 k), sg1 (s1 k)], SegB prog f14 0 s
 | 0 => (Lc (sn (Lc (fun _ _ => rfl) L0)) (Lc (sn (Lc (fun _ _ => rfl) L0)) L0))
 | k + 1 => (Lc (sg_ok (hE k) (sk k) (Lc s0_ev L0)) (Lc (sg_ok (hE k) (sk k) (Lc s1_ev L0)) L0))
theorem ok (k : Nat) : CtOK prog 14 (ct (f k)) := fn_ok func14 rfl (by decide) (hE k) (sk k) (Lc ev L0)
end r37_Line
namespace r36_Split
abbrev R : Type := (List ByteArray) × Int
def e (r : R) : Res := ⟨.tup [(.one (.d (.sl .str) r.1)), (.one (.d (.int .i64) r.2))], []⟩
abbrev T (δ : Type) : Type := ByteArray → Option δ
abbrev A {δ : Type} (g : T δ) : Arm δ := ⟨[.d .str], [], fun x y => g x.1⟩
abbrev G : Type := T R
def ct (g : G) : Ct := mkCt 0 [] [A g] e
abbrev S0 (δ : Type) : Type := ByteArray → Int → Option δ
abbrev A_0 {δ : Type} (s : S0 δ) : Arm δ := ⟨[.d .str, .d (.int .i64)], [], fun x y => s x.1 x.2.1⟩
abbrev S1 (δ : Type) : Type := ByteArray → Int → Bool → Option δ
abbrev A_1 {δ : Type} (s : S1 δ) : Arm δ := ⟨[.d .str, .d (.int .i64), .d .bool], [], fun x y => s x.1 x.2.1 x.2.2.1⟩
abbrev S2 (δ : Type) : Type := ByteArray → Int → Option δ
abbrev A_2 {δ : Type} (s : S2 δ) : Arm δ := ⟨[.d .str, .d (.int .i64)], [], fun x y => s x.1 x.2.1⟩
abbrev S3 (δ : Type) : Type := ByteArray → ByteArray → Bool → Bool → Int → (List ByteArray) → Option δ
abbrev A_3 {δ : Type} (s : S3 δ) : Arm δ := ⟨[.d .str, .k (.own 0), .d .str, .d .bool, .d .bool, .d (.int .i64)], [.own .str false], fun x y => s x.1 x.2.2.1 x.2.2.2.1 x.2.2.2.2.1 x.2.2.2.2.2.1 y.1⟩
abbrev S4 (δ : Type) : Type := ByteArray → ByteArray → Bool → Bool → Int → Int → Bool → (List ByteArray) → Option δ
abbrev A_4 {δ : Type} (s : S4 δ) : Arm δ := ⟨[.d .str, .k (.own 0), .d .str, .d .bool, .d .bool, .d (.int .i64), .d (.int .u8), .d .bool], [.own .str false], fun x y => s x.1 x.2.2.1 x.2.2.2.1 x.2.2.2.2.1 x.2.2.2.2.2.1 x.2.2.2.2.2.2.1 x.2.2.2.2.2.2.2.1 y.1⟩
abbrev S5 (δ : Type) : Type := ByteArray → Bool → Bool → Int → (List ByteArray) → Option δ
abbrev A_5 {δ : Type} (s : S5 δ) : Arm δ := ⟨[.d .str, .k (.own 0), .d .bool, .d .bool, .d (.int .i64)], [.own .str false], fun x y => s x.1 x.2.2.1 x.2.2.2.1 x.2.2.2.2.1 y.1⟩
abbrev S6 (δ : Type) : Type := ByteArray → ByteArray → Bool → Bool → Int → Int → (List ByteArray) → Option δ
abbrev A_6 {δ : Type} (s : S6 δ) : Arm δ := ⟨[.d .str, .k (.own 0), .d .str, .d .bool, .d .bool, .d (.int .i64), .d (.int .u8)], [.own .str false], fun x y => s x.1 x.2.2.1 x.2.2.2.1 x.2.2.2.2.1 x.2.2.2.2.2.1 x.2.2.2.2.2.2.1 y.1⟩
abbrev S7 (δ : Type) : Type := ByteArray → ByteArray → Bool → Bool → Int → (List ByteArray) → Option δ
abbrev A_7 {δ : Type} (s : S7 δ) : Arm δ := ⟨[.d .str, .k (.own 0), .d .str, .d .bool, .d .bool, .d (.int .i64)], [.own .str false], fun x y => s x.1 x.2.2.1 x.2.2.2.1 x.2.2.2.2.1 x.2.2.2.2.2.1 y.1⟩
def sg0 (s : S0 R) : Seg := mkSg [4, 1, 0, 1] [] [0, 4] [A_0 s] e
def sg1 (s : S1 R) : Seg := mkSg [1, 4, 0, 1, 5, 4, 1, 0, 1] [] [0, 4, 26] [A_1 s] e
def sg2 (s : S2 R) : Seg := mkSg [1, 1, 5, 4, 1, 0, 1] [] [0, 4] [A_2 s] e
def sg3 (s : S3 R) : Seg := mkSg [4, 1, 0, 1, 1, 1, 1, 1, 1] [.own 5 .str] [0, 5, 6, 7, 8, 9] [A_3 s] e
def sg4 (s : S4 R) : Seg := mkSg [1, 0, 1, 4, 0, 1, 5, 4, 1, 0, 1, 1, 1, 1, 1, 1] [] [0, 5, 6, 7, 8, 9, 10, 41] [A_4 s] e
def sg5 (s : S5 R) : Seg := mkSg [1, 2, 1, 0, 1, 4, 0, 1, 5, 4, 1, 0, 1, 1, 1, 1, 1, 1] [.own 5 .str] [0, 5, 7, 8, 9] [A_5 s] e
def sg6 (s : S6 R) : Seg := mkSg [1, 1, 4, 0, 1, 5, 4, 1, 0, 1, 1, 1, 1, 1, 1] [] [0, 5, 6, 7, 8, 9, 10] [A_6 s] e
def sg7 (s : S7 R) : Seg := mkSg [1, 1, 5, 4, 1, 0, 1, 1, 1, 1, 1, 1] [.own 5 .str] [0, 5, 6, 7, 8, 9] [A_7 s] e
section
variable {β : Type} (s0 : S0 R) (s1 : S1 R) (s2 : S2 R) (s3 : S3 R) (s4 : S4 R) (s5 : S5 R) (s6 : S6 R) (s7 : S7 R)
noncomputable abbrev env : FEnv := mkEnv prog f19 [] 0 [] [sg0 s0, sg1 s1, sg2 s2, sg3 s3, sg4 s4, sg5 s5, sg6 s6, sg7 s7]
def c (ret : R → Option β) (a0 : ByteArray) : Option β := ((s0 a0 (0 : Int)).bind ret)
def s0c (ret : R → Option β) (x0 : ByteArray) (x1 : Int) : Option β := (bif (decide (x1 < (x0.size : Int))) then (bif ((decide ((0 : Int) ≤ x1)) && (decide (x1 < (x0.size : Int)))) then (bif (decide ((bt x0 x1) < (32 : Int))) then ((s1 x0 x1 true).bind ret) else (bif ((decide ((0 : Int) ≤ x1)) && (decide (x1 < (x0.size : Int)))) then ((s1 x0 x1 (decide ((bt x0 x1) > (126 : Int)))).bind ret) else none)) else none) else ((s3 x0 (ByteArray.mk (List.toArray [])) false false (0 : Int) []).bind ret))
def s1c (ret : R → Option β) (x0 : ByteArray) (x1 : Int) (x2 : Bool) : Option β := (bif x2 then (ret ([], (7 : Int))) else ((s2 x0 x1).bind ret))
def s2c (ret : R → Option β) (x0 : ByteArray) (x1 : Int) : Option β := ((s0 x0 (IntKind.wrap .i64 (x1 + (1 : Int)))).bind ret)
def s3c (ret : R → Option β) (x0 x1 : ByteArray) (x2 x3 : Bool) (x4 : Int) (x5 : List ByteArray) : Option β := (bif (decide (x4 < (x0.size : Int))) then (bif ((decide ((0 : Int) ≤ x4)) && (decide (x4 < (x0.size : Int)))) then (bif ((bt x0 x4) == (32 : Int)) then ((s4 x0 x1 x2 x3 x4 (bt x0 x4) (!x2) x5).bind ret) else ((s4 x0 x1 x2 x3 x4 (bt x0 x4) false x5).bind ret)) else none) else (bif x2 then (ret ([], (7 : Int))) else (bif (!(x1.toList == (ByteArray.toList (ByteArray.mk (List.toArray []))))) then (bif (decide (((x5.length + (1 : Nat)) * (16 : Nat)) ≤ (35184372088832 : Nat))) then (ret ((x5 ++ [x1]), (0 : Int))) else none) else (ret (x5, (0 : Int))))))
def s4c (ret : R → Option β) (x0 x1 : ByteArray) (x2 x3 : Bool) (x4 x5 : Int) (x6 : Bool) (x7 : List ByteArray) : Option β := (bif x6 then (bif (!(x1.toList == (ByteArray.toList (ByteArray.mk (List.toArray []))))) then (bif (decide (((x7.length + (1 : Nat)) * (16 : Nat)) ≤ (35184372088832 : Nat))) then ((s5 x0 x2 x3 x4 (x7 ++ [x1])).bind ret) else none) else ((s5 x0 x2 x3 x4 x7).bind ret)) else ((s6 x0 x1 x2 x3 x4 x5 x7).bind ret))
def s5c (ret : R → Option β) (x0 : ByteArray) (x1 x2 : Bool) (x3 : Int) (x4 : List ByteArray) : Option β := ((s7 x0 (ByteArray.mk (List.toArray [])) x1 x2 x3 x4).bind ret)
def s6c (ret : R → Option β) (x0 x1 : ByteArray) (x2 x3 : Bool) (x4 x5 : Int) (x6 : List ByteArray) : Option β := (bif ((decide (x1.size ≤ (4611686018427387903 : Nat))) && true) then (bif (!x2) then ((s7 x0 (x1 ++ (ByteArray.mk (List.toArray (List.map (fun n => (UInt8.ofNat (Int.toNat n))) [x5])))) (x5 == (34 : Int)) false x4 x6).bind ret) else (bif x3 then ((s7 x0 (x1 ++ (ByteArray.mk (List.toArray (List.map (fun n => (UInt8.ofNat (Int.toNat n))) [x5])))) x2 false x4 x6).bind ret) else (bif (x5 == (92 : Int)) then ((s7 x0 (x1 ++ (ByteArray.mk (List.toArray (List.map (fun n => (UInt8.ofNat (Int.toNat n))) [x5])))) x2 true x4 x6).bind ret) else (bif (x5 == (34 : Int)) then ((s7 x0 (x1 ++ (ByteArray.mk (List.toArray (List.map (fun n => (UInt8.ofNat (Int.toNat n))) [x5])))) false x3 x4 x6).bind ret) else ((s7 x0 (x1 ++ (ByteArray.mk (List.toArray (List.map (fun n => (UInt8.ofNat (Int.toNat n))) [x5])))) x2 x3 x4 x6).bind ret))))) else none)
def s7c (ret : R → Option β) (x0 x1 : ByteArray) (x2 x3 : Bool) (x4 : Int) (x5 : List ByteArray) : Option β := ((s3 x0 x1 x2 x3 (IntKind.wrap .i64 (x4 + (1 : Int))) x5).bind ret)
variable {s0} {s1} {s2} {s3} {s4} {s5} {s6} {s7}
theorem ev : EvA (env s0 s1 s2 s3 s4 s5 s6 s7) [] [0] e (A (c s0 some)) := fun x y => Eq.trans (b := (A (c s0 fun r => some (e r))).G x y) (by kernel_rfl) (by simp only [A, c, bo, so, oa, os, on, ofs])
theorem s0_ev : EvA (env s0 s1 s2 s3 s4 s5 s6 s7) [4, 1, 0, 1] [0, 4] e (A_0 (s0c s1 s3 some)) := fun x y => Eq.trans (b := (A_0 (s0c s1 s3 fun r => some (e r))).G x y) (by kernel_rfl) (by simp only [A_0, s0c, bo, so, oa, os, on, ofs])
theorem s1_ev : EvA (env s0 s1 s2 s3 s4 s5 s6 s7) [1, 4, 0, 1, 5, 4, 1, 0, 1] [0, 4, 26] e (A_1 (s1c s2 some)) := fun x y => Eq.trans (b := (A_1 (s1c s2 fun r => some (e r))).G x y) (by kernel_rfl) (by simp only [A_1, s1c, bo, so, oa, os, on, ofs])
theorem s2_ev : EvA (env s0 s1 s2 s3 s4 s5 s6 s7) [1, 1, 5, 4, 1, 0, 1] [0, 4] e (A_2 (s2c s0 some)) := fun x y => Eq.trans (b := (A_2 (s2c s0 fun r => some (e r))).G x y) (by kernel_rfl) (by simp only [A_2, s2c, bo, so, oa, os, on, ofs])
theorem s3_ev : EvA (env s0 s1 s2 s3 s4 s5 s6 s7) [4, 1, 0, 1, 1, 1, 1, 1, 1] [0, 5, 6, 7, 8, 9] e (A_3 (s3c s4 some)) := fun x y => Eq.trans (b := (A_3 (s3c s4 fun r => some (e r))).G x y) (by kernel_rfl) (by simp only [A_3, s3c, bo, so, oa, os, on, ofs])
theorem s4_ev : EvA (env s0 s1 s2 s3 s4 s5 s6 s7) [1, 0, 1, 4, 0, 1, 5, 4, 1, 0, 1, 1, 1, 1, 1, 1] [0, 5, 6, 7, 8, 9, 10, 41] e (A_4 (s4c s5 s6 some)) := fun x y => Eq.trans (b := (A_4 (s4c s5 s6 fun r => some (e r))).G x y) (by kernel_rfl) (by simp only [A_4, s4c, bo, so, oa, os, on, ofs])
theorem s5_ev : EvA (env s0 s1 s2 s3 s4 s5 s6 s7) [1, 2, 1, 0, 1, 4, 0, 1, 5, 4, 1, 0, 1, 1, 1, 1, 1, 1] [0, 5, 7, 8, 9] e (A_5 (s5c s7 some)) := fun x y => Eq.trans (b := (A_5 (s5c s7 fun r => some (e r))).G x y) (by kernel_rfl) (by simp only [A_5, s5c, bo, so, oa, os, on, ofs])
theorem s6_ev : EvA (env s0 s1 s2 s3 s4 s5 s6 s7) [1, 1, 4, 0, 1, 5, 4, 1, 0, 1, 1, 1, 1, 1, 1] [0, 5, 6, 7, 8, 9, 10] e (A_6 (s6c s7 some)) := fun x y => Eq.trans (b := (A_6 (s6c s7 fun r => some (e r))).G x y) (by kernel_rfl) (by simp only [A_6, s6c, bo, so, oa, os, on, ofs])
theorem s7_ev : EvA (env s0 s1 s2 s3 s4 s5 s6 s7) [1, 1, 5, 4, 1, 0, 1, 1, 1, 1, 1, 1] [0, 5, 6, 7, 8, 9] e (A_7 (s7c s3 some)) := fun x y => Eq.trans (b := (A_7 (s7c s3 fun r => some (e r))).G x y) (by kernel_rfl) (by simp only [A_7, s7c, bo, so, oa, os, on, ofs])
end
mutual
def s0 : Nat → S0 R
 | 0, _, _ => none
 | k + 1, x0, x1 => s0c (s1 k) (s3 k) some x0 x1
def s1 : Nat → S1 R
 | 0, _, _, _ => none
 | k + 1, x0, x1, x2 => s1c (s2 k) some x0 x1 x2
def s2 : Nat → S2 R
 | 0, _, _ => none
 | k + 1, x0, x1 => s2c (s0 k) some x0 x1
def s3 : Nat → S3 R
 | 0, _, _, _, _, _, _ => none
 | k + 1, x0, x1, x2, x3, x4, x5 => s3c (s4 k) some x0 x1 x2 x3 x4 x5
def s4 : Nat → S4 R
 | 0, _, _, _, _, _, _, _, _ => none
 | k + 1, x0, x1, x2, x3, x4, x5, x6, x7 => s4c (s5 k) (s6 k) some x0 x1 x2 x3 x4 x5 x6 x7
def s5 : Nat → S5 R
 | 0, _, _, _, _, _ => none
 | k + 1, x0, x1, x2, x3, x4 => s5c (s7 k) some x0 x1 x2 x3 x4
def s6 : Nat → S6 R
 | 0, _, _, _, _, _, _, _ => none
 | k + 1, x0, x1, x2, x3, x4, x5, x6 => s6c (s7 k) some x0 x1 x2 x3 x4 x5 x6
def s7 : Nat → S7 R
 | 0, _, _, _, _, _, _ => none
 | k + 1, x0, x1, x2, x3, x4, x5 => s7c (s3 k) some x0 x1 x2 x3 x4 x5
end
def f (k : Nat) (a0 : ByteArray) : Option R := c (s0 k) some a0
noncomputable abbrev E (k : Nat) : FEnv := env  (s0 k) (s1 k) (s2 k) (s3 k) (s4 k) (s5 k) (s6 k) (s7 k)
theorem hE (k : Nat) : EnvOK (E k).toEnv := ctsOK L0
theorem sk : ∀ k, ∀ s ∈ [sg0 (s0 k), sg1 (s1 k), sg2 (s2 k), sg3 (s3 k), sg4 (s4 k), sg5 (s5 k), sg6 (s6 k), sg7 (s7 k)], SegB prog f19 0 s
 | 0 => (Lc (sn (Lc (fun _ _ => rfl) L0)) (Lc (sn (Lc (fun _ _ => rfl) L0)) (Lc (sn (Lc (fun _ _ => rfl) L0)) (Lc (sn (Lc (fun _ _ => rfl) L0)) (Lc (sn (Lc (fun _ _ => rfl) L0)) (Lc (sn (Lc (fun _ _ => rfl) L0)) (Lc (sn (Lc (fun _ _ => rfl) L0)) (Lc (sn (Lc (fun _ _ => rfl) L0)) L0))))))))
 | k + 1 => (Lc (sg_ok (hE k) (sk k) (Lc s0_ev L0)) (Lc (sg_ok (hE k) (sk k) (Lc s1_ev L0)) (Lc (sg_ok (hE k) (sk k) (Lc s2_ev L0)) (Lc (sg_ok (hE k) (sk k) (Lc s3_ev L0)) (Lc (sg_ok (hE k) (sk k) (Lc s4_ev L0)) (Lc (sg_ok (hE k) (sk k) (Lc s5_ev L0)) (Lc (sg_ok (hE k) (sk k) (Lc s6_ev L0)) (Lc (sg_ok (hE k) (sk k) (Lc s7_ev L0)) L0))))))))
theorem ok (k : Nat) : CtOK prog 19 (ct (f k)) := fn_ok func19 rfl (by decide) (hE k) (sk k) (Lc ev L0)
end r36_Split
namespace r07_Number
abbrev R : Type := Int × Int
def e (r : R) : Res := ⟨.tup [(.one (.d (.int .i64) r.1)), (.one (.d (.int .i64) r.2))], []⟩
abbrev T (δ : Type) : Type := ByteArray → Option δ
abbrev A {δ : Type} (g : T δ) : Arm δ := ⟨[.d .str], [], fun x y => g x.1⟩
abbrev G : Type := T R
def ct (g : G) : Ct := mkCt 0 [] [A g] e
abbrev S0 (δ : Type) : Type := ByteArray → Int → Int → Bool → Option δ
abbrev A_0 {δ : Type} (s : S0 δ) : Arm δ := ⟨[.d .str, .d (.int .i64), .d (.int .i64), .d .bool], [], fun x y => s x.1 x.2.1 x.2.2.1 x.2.2.2.1⟩
abbrev S1 (δ : Type) : Type := ByteArray → Int → Int → Option δ
abbrev A_1 {δ : Type} (s : S1 δ) : Arm δ := ⟨[.d .str, .d (.int .i64), .d (.int .i64)], [], fun x y => s x.1 x.2.1 x.2.2.1⟩
abbrev S2 (δ : Type) : Type := ByteArray → Int → Int → Int → Option δ
abbrev A_2 {δ : Type} (s : S2 δ) : Arm δ := ⟨[.d .str, .d (.int .i64), .d (.int .i64), .d (.int .i64)], [], fun x y => s x.1 x.2.1 x.2.2.1 x.2.2.2.1⟩
abbrev S3 (δ : Type) : Type := ByteArray → Int → Int → Int → Bool → Option δ
abbrev A_3 {δ : Type} (s : S3 δ) : Arm δ := ⟨[.d .str, .d (.int .i64), .d (.int .i64), .d (.int .i64), .d .bool], [], fun x y => s x.1 x.2.1 x.2.2.1 x.2.2.2.1 x.2.2.2.2.1⟩
abbrev S4 (δ : Type) : Type := ByteArray → Int → Int → Int → Option δ
abbrev A_4 {δ : Type} (s : S4 δ) : Arm δ := ⟨[.d .str, .d (.int .i64), .d (.int .i64), .d (.int .i64)], [], fun x y => s x.1 x.2.1 x.2.2.1 x.2.2.2.1⟩
abbrev S5 (δ : Type) : Type := ByteArray → Int → Int → Int → Option δ
abbrev A_5 {δ : Type} (s : S5 δ) : Arm δ := ⟨[.d .str, .d (.int .i64), .d (.int .i64), .d (.int .i64)], [], fun x y => s x.1 x.2.1 x.2.2.1 x.2.2.2.1⟩
def sg0 (s : S0 R) : Seg := mkSg [1, 0, 1, 1, 1] [] [0, 4, 5, 14] [A_0 s] e
def sg1 (s : S1 R) : Seg := mkSg [1, 1, 1, 1] [] [0, 4, 5] [A_1 s] e
def sg2 (s : S2 R) : Seg := mkSg [4, 1, 0, 1, 1, 1, 1, 1] [] [0, 4, 5, 6] [A_2 s] e
def sg3 (s : S3 R) : Seg := mkSg [1, 0, 4, 0, 1, 5, 4, 1, 0, 1, 1, 1, 1, 1] [] [0, 4, 5, 6, 34] [A_3 s] e
def sg4 (s : S4 R) : Seg := mkSg [1, 4, 0, 1, 5, 4, 1, 0, 1, 1, 1, 1, 1] [] [0, 4, 5, 6] [A_4 s] e
def sg5 (s : S5 R) : Seg := mkSg [1, 1, 5, 4, 1, 0, 1, 1, 1, 1, 1] [] [0, 4, 5, 6] [A_5 s] e
section
variable {β : Type} (g60 : r07_Digits.G) (s0 : S0 R) (s1 : S1 R) (s2 : S2 R) (s3 : S3 R) (s4 : S4 R) (s5 : S5 R)
noncomputable abbrev env : FEnv := mkEnv prog f74 [(60, r07_Digits.ct g60)] 0 [] [sg0 s0, sg1 s1, sg2 s2, sg3 s3, sg4 s4, sg5 s5]
def c (ret : R → Option β) (a0 : ByteArray) : Option β := (bif (decide ((a0.size : Int) > (0 : Int))) then (bif (true && (decide ((0 : Int) < (a0.size : Int)))) then ((s0 a0 (0 : Int) (0 : Int) ((bt a0 (0 : Int)) == (45 : Int))).bind ret) else none) else ((s0 a0 (0 : Int) (0 : Int) false).bind ret))
def s0c (ret : R → Option β) (x0 : ByteArray) (x1 x2 : Int) (x3 : Bool) : Option β := (bif x3 then ((s1 x0 x1 (1 : Int)).bind ret) else ((s1 x0 x1 x2).bind ret))
def s1c (ret : R → Option β) (x0 : ByteArray) (x1 x2 : Int) : Option β := (bif (decide ((x0.size : Int) > (20 : Int))) then (ret ((0 : Int), (7 : Int))) else ((s2 x0 x1 x2 x2).bind ret))
def s2c (ret : R → Option β) (x0 : ByteArray) (x1 x2 x3 : Int) : Option β := (bif (decide (x3 < (x0.size : Int))) then (bif ((decide ((0 : Int) ≤ x3)) && (decide (x3 < (x0.size : Int)))) then (bif (decide ((bt x0 x3) < (48 : Int))) then ((s3 x0 x1 x2 x3 true).bind ret) else (bif ((decide ((0 : Int) ≤ x3)) && (decide (x3 < (x0.size : Int)))) then ((s3 x0 x1 x2 x3 (decide ((bt x0 x3) > (57 : Int)))).bind ret) else none)) else none) else (bif (x2 == (1 : Int)) then ((g60 (IntKind.wrap .i64 ((0 : Int) - x1))).bind fun r0 => (bif (!(r0.toList == x0.toList)) then (ret ((0 : Int), (7 : Int))) else (ret ((IntKind.wrap .i64 ((0 : Int) - x1)), (0 : Int))))) else ((g60 x1).bind fun r1 => (bif (!(r1.toList == x0.toList)) then (ret ((0 : Int), (7 : Int))) else (ret (x1, (0 : Int)))))))
def s3c (ret : R → Option β) (x0 : ByteArray) (x1 x2 x3 : Int) (x4 : Bool) : Option β := (bif x4 then (ret ((0 : Int), (7 : Int))) else ((s4 x0 x1 x2 x3).bind ret))
def s4c (ret : R → Option β) (x0 : ByteArray) (x1 x2 x3 : Int) : Option β := (bif ((decide ((0 : Int) ≤ x3)) && (decide (x3 < (x0.size : Int)))) then ((s5 x0 (IntKind.wrap .i64 ((IntKind.wrap .i64 ((IntKind.wrap .i64 (x1 * (10 : Int))) + (IntKind.wrap .i64 (bt x0 x3)))) - (48 : Int))) x2 x3).bind ret) else none)
def s5c (ret : R → Option β) (x0 : ByteArray) (x1 x2 x3 : Int) : Option β := ((s2 x0 x1 x2 (IntKind.wrap .i64 (x3 + (1 : Int)))).bind ret)
variable {g60} {s0} {s1} {s2} {s3} {s4} {s5}
theorem ev : EvA (env g60 s0 s1 s2 s3 s4 s5) [] [0] e (A (c s0 some)) := fun x y => Eq.trans (b := (A (c s0 fun r => some (e r))).G x y) (by kernel_rfl) (by simp only [A, c, bo, so, oa, os, on, ofs])
theorem s0_ev : EvA (env g60 s0 s1 s2 s3 s4 s5) [1, 0, 1, 1, 1] [0, 4, 5, 14] e (A_0 (s0c s1 some)) := fun x y => Eq.trans (b := (A_0 (s0c s1 fun r => some (e r))).G x y) (by kernel_rfl) (by simp only [A_0, s0c, bo, so, oa, os, on, ofs])
theorem s1_ev : EvA (env g60 s0 s1 s2 s3 s4 s5) [1, 1, 1, 1] [0, 4, 5] e (A_1 (s1c s2 some)) := fun x y => Eq.trans (b := (A_1 (s1c s2 fun r => some (e r))).G x y) (by kernel_rfl) (by simp only [A_1, s1c, bo, so, oa, os, on, ofs])
theorem s2_ev : EvA (env g60 s0 s1 s2 s3 s4 s5) [4, 1, 0, 1, 1, 1, 1, 1] [0, 4, 5, 6] e (A_2 (s2c g60 s3 some)) := fun x y => Eq.trans (b := (A_2 (s2c g60 s3 fun r => some (e r))).G x y) (by kernel_rfl) (by simp only [A_2, s2c, bo, so, oa, os, on, ofs])
theorem s3_ev : EvA (env g60 s0 s1 s2 s3 s4 s5) [1, 0, 4, 0, 1, 5, 4, 1, 0, 1, 1, 1, 1, 1] [0, 4, 5, 6, 34] e (A_3 (s3c s4 some)) := fun x y => Eq.trans (b := (A_3 (s3c s4 fun r => some (e r))).G x y) (by kernel_rfl) (by simp only [A_3, s3c, bo, so, oa, os, on, ofs])
theorem s4_ev : EvA (env g60 s0 s1 s2 s3 s4 s5) [1, 4, 0, 1, 5, 4, 1, 0, 1, 1, 1, 1, 1] [0, 4, 5, 6] e (A_4 (s4c s5 some)) := fun x y => Eq.trans (b := (A_4 (s4c s5 fun r => some (e r))).G x y) (by kernel_rfl) (by simp only [A_4, s4c, bo, so, oa, os, on, ofs])
theorem s5_ev : EvA (env g60 s0 s1 s2 s3 s4 s5) [1, 1, 5, 4, 1, 0, 1, 1, 1, 1, 1] [0, 4, 5, 6] e (A_5 (s5c s2 some)) := fun x y => Eq.trans (b := (A_5 (s5c s2 fun r => some (e r))).G x y) (by kernel_rfl) (by simp only [A_5, s5c, bo, so, oa, os, on, ofs])
end
mutual
def s0 : Nat → S0 R
 | 0, _, _, _, _ => none
 | k + 1, x0, x1, x2, x3 => s0c (s1 k) some x0 x1 x2 x3
def s1 : Nat → S1 R
 | 0, _, _, _ => none
 | k + 1, x0, x1, x2 => s1c (s2 k) some x0 x1 x2
def s2 : Nat → S2 R
 | 0, _, _, _, _ => none
 | k + 1, x0, x1, x2, x3 => s2c (r07_Digits.f k) (s3 k) some x0 x1 x2 x3
def s3 : Nat → S3 R
 | 0, _, _, _, _, _ => none
 | k + 1, x0, x1, x2, x3, x4 => s3c (s4 k) some x0 x1 x2 x3 x4
def s4 : Nat → S4 R
 | 0, _, _, _, _ => none
 | k + 1, x0, x1, x2, x3 => s4c (s5 k) some x0 x1 x2 x3
def s5 : Nat → S5 R
 | 0, _, _, _, _ => none
 | k + 1, x0, x1, x2, x3 => s5c (s2 k) some x0 x1 x2 x3
end
def f (k : Nat) (a0 : ByteArray) : Option R := c (s0 k) some a0
noncomputable abbrev E (k : Nat) : FEnv := env (r07_Digits.f k) (s0 k) (s1 k) (s2 k) (s3 k) (s4 k) (s5 k)
theorem hE (k : Nat) : EnvOK (E k).toEnv := ctsOK (Lc (r07_Digits.ok k) L0)
theorem sk : ∀ k, ∀ s ∈ [sg0 (s0 k), sg1 (s1 k), sg2 (s2 k), sg3 (s3 k), sg4 (s4 k), sg5 (s5 k)], SegB prog f74 0 s
 | 0 => (Lc (sn (Lc (fun _ _ => rfl) L0)) (Lc (sn (Lc (fun _ _ => rfl) L0)) (Lc (sn (Lc (fun _ _ => rfl) L0)) (Lc (sn (Lc (fun _ _ => rfl) L0)) (Lc (sn (Lc (fun _ _ => rfl) L0)) (Lc (sn (Lc (fun _ _ => rfl) L0)) L0))))))
 | k + 1 => (Lc (sg_ok (hE k) (sk k) (Lc s0_ev L0)) (Lc (sg_ok (hE k) (sk k) (Lc s1_ev L0)) (Lc (sg_ok (hE k) (sk k) (Lc s2_ev L0)) (Lc (sg_ok (hE k) (sk k) (Lc s3_ev L0)) (Lc (sg_ok (hE k) (sk k) (Lc s4_ev L0)) (Lc (sg_ok (hE k) (sk k) (Lc s5_ev L0)) L0))))))
theorem ok (k : Nat) : CtOK prog 74 (ct (f k)) := fn_ok func74 rfl (by decide) (hE k) (sk k) (Lc ev L0)
end r07_Number
namespace r37_number
abbrev R : Type := Int × Bool
def e (r : R) : Res := ⟨.tup [(.one (.d (.int .i64) r.1)), (.one (.d .bool r.2))], []⟩
abbrev T (δ : Type) : Type := ByteArray → Option δ
abbrev A {δ : Type} (g : T δ) : Arm δ := ⟨[.d .str], [], fun x y => g x.1⟩
abbrev G : Type := T R
def ct (g : G) : Ct := mkCt 0 [] [A g] e
section
variable {β : Type} (g74 : r07_Number.G)
noncomputable abbrev env : FEnv := mkEnv prog f44 [(74, r07_Number.ct g74)] 0 [] []
def c (ret : R → Option β) (a0 : ByteArray) : Option β := ((g74 a0).bind fun r0 => (ret (r0.1, (r0.2 == (0 : Int)))))
variable {g74}
theorem ev : EvA (env g74) [] [0] e (A (c g74 some)) := fun x y => Eq.trans (b := (A (c g74 fun r => some (e r))).G x y) (by kernel_rfl) (by simp only [A, c, bo, so, oa, os, on, ofs])
end
def f (k : Nat) (a0 : ByteArray) : Option R := c (r07_Number.f k) some a0
noncomputable abbrev E (k : Nat) : FEnv := env (r07_Number.f k) 
theorem hE (k : Nat) : EnvOK (E k).toEnv := ctsOK (Lc (r07_Number.ok k) L0)
theorem ok (k : Nat) : CtOK prog 44 (ct (f k)) := fn_ok func44 rfl (by decide) (hE k) L0 (Lc ev L0)
end r37_number
namespace r37_at
def e (r : ByteArray) : Res := ⟨.v (.one (.d .str r)), []⟩
abbrev T (δ : Type) : Type := (List ByteArray) → Int → Option δ
abbrev A {δ : Type} (g : T δ) : Arm δ := ⟨[.d (.sl .str), .d (.int .i64)], [], fun x y => g x.1 x.2.1⟩
abbrev G : Type := T ByteArray
def ct (g : G) : Ct := mkCt 0 [] [A g] e
section
variable {β : Type} 
noncomputable abbrev env : FEnv := mkEnv prog f45 [] 0 [] []
def c (ret : ByteArray → Option β) (a0 : List ByteArray) (a1 : Int) : Option β := (bif (decide (a1 < (a0.length : Int))) then (bif ((decide ((0 : Int) ≤ a1)) && (decide (a1 < (a0.length : Int)))) then (ret ((elem Ty.str a0 a1))) else none) else (ret ((ByteArray.mk (List.toArray [])))))
theorem ev : EvA (env) [] [0, 1] e (A (c some)) := fun x y => Eq.trans (b := (A (c fun r => some (e r))).G x y) (by kernel_rfl) (by simp only [A, c, bo, so, oa, os, on, ofs])
end
def f (k : Nat) (a0 : List ByteArray) (a1 : Int) : Option ByteArray := c  some a0 a1
noncomputable abbrev E (k : Nat) : FEnv := env  
theorem hE (k : Nat) : EnvOK (E k).toEnv := ctsOK L0
theorem ok (k : Nat) : CtOK prog 45 (ct (f k)) := fn_ok func45 rfl (by decide) (hE k) L0 (Lc ev L0)
end r37_at
end Go.Proofs.YtimadphjdkjgaaaGreatDoor.Aev
