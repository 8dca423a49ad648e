/- By a program of this session (AEV): functions of the program as plain functions, and that the machine does what they say. -/
import Derived.Test.YthaannpgcbpjkaaTys
import Derived.Test.YthaannpgcbpjkaaProg
import Derived.Laws.Externs
import Derived.Lib.Bytealg
import Derived.Test.YthaannpgcbpjkaaF3
import Derived.Test.YthaannpgcbpjkaaF4
import Derived.Test.YthaannpgcbpjkaaF5
namespace Go.Proofs.Ythaannpgcbpjkaa.Aev
set_option linter.unusedVariables false
set_option linter.unusedSimpArgs false
set_option maxRecDepth 100000
set_option maxHeartbeats 4000000
open Go Go.Proofs.Try
namespace transomref37_Change
abbrev R : Type := ByteArray × Int
def e (r : R) : Res := ⟨.tup [(.one (.d .str r.1)), (.one (.d (.int .i64) r.2))], []⟩
abbrev T (δ : Type) : Type := D_api_Change → Option δ
abbrev A {δ : Type} (g : T δ) : Arm δ := ⟨[.s T_api_Change], [], fun x y => g x.1.1⟩
abbrev G : Type := T R
def ct (g : G) : Ct := mkCt 0 [] [A g] e
section
variable {β : Type} (g50 : transomref37_named.G) (g61 : transomref37_create.G) (g62 : transomref37_col.G) (g63 : transomref37_kind.G) (g64 : transomref37_split.G)
noncomputable abbrev env : FEnv := mkEnv prog f48 [(50, transomref37_named.ct g50), (61, transomref37_create.ct g61), (62, transomref37_col.ct g62), (63, transomref37_kind.ct g63), (64, transomref37_split.ct g64)] 0 [] []
def c (ret : R → Option β) (a0 : D_api_Change) : Option β := (bif (a0.1 == (1 : Int)) then ((g61 a0.2.2.2.2.2.2.2.2.2.1.1 a0.2.2.2.2.2.2.2.2.2.1.2.1 a0.2.2.2.2.2.2.2.2.2.1.2.2.1).bind fun r0 => (bif (r0.2 != (0 : Int)) then (ret ((ByteArray.mk (List.toArray [])), r0.2)) else (ret (r0.1, (0 : Int))))) else (bif (a0.1 == (2 : Int)) then ((g50 (ByteArray.mk (List.toArray [(97 : UInt8), (100 : UInt8), (100 : UInt8)])) [a0.2.1]).bind fun r1 => (bif (r1.2 == (0 : Int)) then ((g62 a0.2.2.2.2.2.2.2.2.1.1 a0.2.2.2.2.2.2.2.2.1.2.1 a0.2.2.2.2.2.2.2.2.1.2.2.1 a0.2.2.2.2.2.2.2.2.1.2.2.2.1.1 a0.2.2.2.2.2.2.2.2.1.2.2.2.1.2.1 a0.2.2.2.2.2.2.2.2.1.2.2.2.1.2.2.1 a0.2.2.2.2.2.2.2.2.1.2.2.2.1.2.2.2.1).bind fun r2 => (bif ((decide (r1.1.size ≤ (4611686018427387903 : Nat))) && (decide (r2.1.size ≤ (4611686018427387903 : Nat)))) then (bif (r2.2 != (0 : Int)) then (ret ((ByteArray.mk (List.toArray [])), r2.2)) else (ret ((r1.1 ++ r2.1), (0 : Int)))) else none)) else (bif (r1.2 != (0 : Int)) then (ret ((ByteArray.mk (List.toArray [])), r1.2)) else (ret (r1.1, (0 : Int)))))) else (bif (a0.1 == (3 : Int)) then ((g50 (ByteArray.mk (List.toArray [(100 : UInt8), (114 : UInt8), (111 : UInt8), (112 : UInt8)])) [a0.2.1, a0.2.2.2.2.2.1]).bind fun r3 => (bif (r3.2 != (0 : Int)) then (ret ((ByteArray.mk (List.toArray [])), r3.2)) else (ret (r3.1, (0 : Int))))) else (bif (a0.1 == (4 : Int)) then ((g50 (ByteArray.mk (List.toArray [(114 : UInt8), (101 : UInt8), (116 : UInt8), (121 : UInt8), (112 : UInt8), (101 : UInt8)])) [a0.2.1, a0.2.2.2.2.2.1]).bind fun r4 => (bif (r4.2 == (0 : Int)) then ((g63 a0.2.2.2.2.2.2.1).bind fun r5 => (bif ((decide (r4.1.size ≤ (4611686018427387903 : Nat))) && (decide (r5.1.size ≤ (4611686018427387903 : Nat)))) then (bif (r5.2 != (0 : Int)) then (ret ((ByteArray.mk (List.toArray [])), r5.2)) else (ret ((r4.1 ++ r5.1), (0 : Int)))) else none)) else (bif (r4.2 != (0 : Int)) then (ret ((ByteArray.mk (List.toArray [])), r4.2)) else (ret (r4.1, (0 : Int)))))) else (bif (a0.1 == (5 : Int)) then ((g64 a0).bind fun r6 => (bif (r6.2 != (0 : Int)) then (ret ((ByteArray.mk (List.toArray [])), r6.2)) else (ret (r6.1, (0 : Int))))) else (bif (a0.1 == (6 : Int)) then ((g50 (ByteArray.mk (List.toArray [(109 : UInt8), (101 : UInt8), (114 : UInt8), (103 : UInt8), (101 : UInt8)])) [a0.2.1, a0.2.2.1, a0.2.2.2.1]).bind fun r7 => (bif (r7.2 != (0 : Int)) then (ret ((ByteArray.mk (List.toArray [])), r7.2)) else (ret (r7.1, (0 : Int))))) else (ret ((ByteArray.mk (List.toArray [])), (1 : Int)))))))))
variable {g50} {g61} {g62} {g63} {g64}
theorem ev : EvA (env g50 g61 g62 g63 g64) [] [0] e (A (c g50 g61 g62 g63 g64 some)) := fun x y => Eq.trans (b := (A (c g50 g61 g62 g63 g64 fun r => some (e r))).G x y) (by kernel_rfl) (by simp only [A, c, bif_bind, sum_bind, oa, os, on, ofs])
end
def f (k : Nat) (a0 : D_api_Change) : Option R := c (transomref37_named.f k) (transomref37_create.f k) (transomref37_col.f k) (transomref37_kind.f k) (transomref37_split.f k) some a0
noncomputable abbrev E (k : Nat) : FEnv := env (transomref37_named.f k) (transomref37_create.f k) (transomref37_col.f k) (transomref37_kind.f k) (transomref37_split.f k) 
theorem hE (k : Nat) : EnvOK (E k).toEnv := ctsOK (Lc (transomref37_named.ok k) (Lc (transomref37_create.ok k) (Lc (transomref37_col.ok k) (Lc (transomref37_kind.ok k) (Lc (transomref37_split.ok k) L0)))))
theorem ok (k : Nat) : CtOK prog 48 (ct (f k)) := fn_ok func48 rfl (by decide) (hE k) L0 (Lc ev L0)
end transomref37_Change
namespace transomref37_word
def e (r : ByteArray) : Res := ⟨.v (.one (.d .str r)), []⟩
abbrev T (δ : Type) : Type := Int → Option δ
abbrev A {δ : Type} (g : T δ) : Arm δ := ⟨[.d (.int .i64)], [], fun x y => g x.1⟩
abbrev G : Type := T ByteArray
def ct (g : G) : Ct := mkCt 0 [] [A g] e
section
variable {β : Type} 
noncomputable abbrev env : FEnv := mkEnv prog f49 [] 0 [] []
def c (ret : ByteArray → Option β) (a0 : Int) : Option β := (bif (a0 == (1 : Int)) then (ret ((ByteArray.mk (List.toArray [(103 : UInt8), (101 : UInt8), (116 : UInt8)])))) else (bif (a0 == (3 : Int)) then (ret ((ByteArray.mk (List.toArray [(105 : UInt8), (110 : UInt8), (115 : UInt8), (101 : UInt8), (114 : UInt8), (116 : UInt8)])))) else (bif (a0 == (4 : Int)) then (ret ((ByteArray.mk (List.toArray [(117 : UInt8), (112 : UInt8), (100 : UInt8), (97 : UInt8), (116 : UInt8), (101 : UInt8)])))) else (bif (a0 == (5 : Int)) then (ret ((ByteArray.mk (List.toArray [(100 : UInt8), (101 : UInt8), (108 : UInt8), (101 : UInt8), (116 : UInt8), (101 : UInt8)])))) else (bif (a0 == (7 : Int)) then (ret ((ByteArray.mk (List.toArray [(98 : UInt8), (101 : UInt8), (103 : UInt8), (105 : UInt8), (110 : UInt8)])))) else (bif (a0 == (8 : Int)) then (ret ((ByteArray.mk (List.toArray [(99 : UInt8), (111 : UInt8), (109 : UInt8), (109 : UInt8), (105 : UInt8), (116 : UInt8)])))) else (bif (a0 == (9 : Int)) then (ret ((ByteArray.mk (List.toArray [(97 : UInt8), (98 : UInt8), (111 : UInt8), (114 : UInt8), (116 : UInt8)])))) else (ret ((ByteArray.mk (List.toArray [])))))))))))
theorem ev : EvA (env) [] [0] e (A (c some)) := fun x y => Eq.trans (b := (A (c fun r => some (e r))).G x y) (by kernel_rfl) (by simp only [A, c, bif_bind, sum_bind, oa, os, on, ofs])
end
def f (k : Nat) (a0 : Int) : Option ByteArray := c  some a0
noncomputable abbrev E (k : Nat) : FEnv := env  
theorem hE (k : Nat) : EnvOK (E k).toEnv := ctsOK L0
theorem ok (k : Nat) : CtOK prog 49 (ct (f k)) := fn_ok func49 rfl (by decide) (hE k) L0 (Lc ev L0)
end transomref37_word
namespace transomref37_op
abbrev R : Type := ByteArray × Int
def e (r : R) : Res := ⟨.tup [(.one (.d .str r.1)), (.one (.d (.int .i64) r.2))], []⟩
abbrev T (δ : Type) : Type := D_api_Op → Option δ
abbrev A {δ : Type} (g : T δ) : Arm δ := ⟨[.s T_api_Op], [], fun x y => g x.1.1⟩
abbrev G : Type := T R
def ct (g : G) : Ct := mkCt 0 [] [A g] e
abbrev S0 (δ : Type) : Type := Bool → D_api_Op → Option δ
abbrev A_0 {δ : Type} (s : S0 δ) : Arm δ := ⟨[.k (.ptr 0 0), .d .bool], [.box [.g T_api_Op]], fun x y => s x.2.1 y.1.1⟩
abbrev S1 (δ : Type) : Type := Bool → D_api_Op → Option δ
abbrev A_1 {δ : Type} (s : S1 δ) : Arm δ := ⟨[.k (.ptr 0 0), .d .bool], [.box [.g T_api_Op]], fun x y => s x.2.1 y.1.1⟩
abbrev S2 (δ : Type) : Type := D_api_Op → Option δ
abbrev A_2 {δ : Type} (s : S2 δ) : Arm δ := ⟨[.k (.ptr 0 0)], [.box [.g T_api_Op]], fun x y => s y.1.1⟩
def sg0 (s : S0 R) : Seg := mkSg [1, 3, 1, 3, 1, 4, 0, 1] [] [1, 30] [A_0 s] e
def sg1 (s : S1 R) : Seg := mkSg [1, 3, 1, 3, 1, 3, 1, 4, 0, 1] [] [1, 42] [A_1 s] e
def sg2 (s : S2 R) : Seg := mkSg [1, 1] [] [1] [A_2 s] e
section
variable {β : Type} (g47 : transomref37_scan.G) (g48 : transomref37_Change.G) (g49 : transomref37_word.G) (g50 : transomref37_named.G) (g51 : transomref37_values.G) (s0 : S0 R) (s1 : S1 R) (s2 : S2 R)
noncomputable abbrev env : FEnv := mkEnv prog f35 [(47, transomref37_scan.ct g47), (48, transomref37_Change.ct g48), (49, transomref37_word.ct g49), (50, transomref37_named.ct g50), (51, transomref37_values.ct g51)] 0 [] [sg0 s0, sg1 s1, sg2 s2]
def c (ret : R → Option β) (a0 : D_api_Op) : Option β := (bif (a0.1 == (2 : Int)) then ((g47 a0).bind fun r0 => (ret (r0.1, r0.2))) else (bif (a0.1 == (6 : Int)) then ((g48 a0.2.2.2.2.2.2.1).bind fun r1 => (bif (true && (decide (r1.1.size ≤ (4611686018427387903 : Nat)))) then (ret (((ByteArray.mk (List.toArray [(99 : UInt8), (104 : UInt8), (97 : UInt8), (110 : UInt8), (103 : UInt8), (101 : UInt8), (32 : UInt8)])) ++ r1.1), r1.2)) else none)) else (bif (decide (a0.1 ≥ (7 : Int))) then ((s0 (decide (a0.1 ≤ (9 : Int))) a0).bind ret) else ((s0 false a0).bind ret))))
def s0c (ret : R → Option β) (x0 : Bool) (x1 : D_api_Op) : Option β := (bif x0 then ((g49 x1.1).bind fun r0 => (ret (r0, (0 : Int)))) else (bif (decide (x1.1 < (1 : Int))) then ((s1 true x1).bind ret) else ((s1 (decide (x1.1 > (9 : Int))) x1).bind ret)))
def s1c (ret : R → Option β) (x0 : Bool) (x1 : D_api_Op) : Option β := (bif x0 then (ret ((ByteArray.mk (List.toArray [])), (1 : Int))) else ((s2 x1).bind ret))
def s2c (ret : R → Option β) (x0 : D_api_Op) : Option β := ((g49 x0.1).bind fun r0 => ((g50 r0 [x0.2.1]).bind fun r1 => (bif (r1.2 != (0 : Int)) then (ret ((ByteArray.mk (List.toArray [])), r1.2)) else ((g51 x0.2.2.1).bind fun r2 => (bif ((decide (r1.1.size ≤ (4611686018427387903 : Nat))) && (decide (r2.1.size ≤ (4611686018427387903 : Nat)))) then (ret ((r1.1 ++ r2.1), r2.2)) else none)))))
variable {g47} {g48} {g49} {g50} {g51} {s0} {s1} {s2}
theorem ev : EvA (env g47 g48 g49 g50 g51 s0 s1 s2) [] [0] e (A (c g47 g48 s0 some)) := fun x y => Eq.trans (b := (A (c g47 g48 s0 fun r => some (e r))).G x y) (by kernel_rfl) (by simp only [A, c, bif_bind, sum_bind, oa, os, on, ofs])
theorem s0_ev : EvA (env g47 g48 g49 g50 g51 s0 s1 s2) [1, 3, 1, 3, 1, 4, 0, 1] [1, 30] e (A_0 (s0c g49 s1 some)) := fun x y => Eq.trans (b := (A_0 (s0c g49 s1 fun r => some (e r))).G x y) (by kernel_rfl) (by simp only [A_0, s0c, bif_bind, sum_bind, oa, os, on, ofs])
theorem s1_ev : EvA (env g47 g48 g49 g50 g51 s0 s1 s2) [1, 3, 1, 3, 1, 3, 1, 4, 0, 1] [1, 42] e (A_1 (s1c s2 some)) := fun x y => Eq.trans (b := (A_1 (s1c s2 fun r => some (e r))).G x y) (by kernel_rfl) (by simp only [A_1, s1c, bif_bind, sum_bind, oa, os, on, ofs])
theorem s2_ev : EvA (env g47 g48 g49 g50 g51 s0 s1 s2) [1, 1] [1] e (A_2 (s2c g49 g50 g51 some)) := fun x y => Eq.trans (b := (A_2 (s2c g49 g50 g51 fun r => some (e r))).G x y) (by kernel_rfl) (by simp only [A_2, s2c, bif_bind, sum_bind, oa, os, on, ofs])
end
mutual
def s0 : Nat → S0 R
  | 0, _, _ => none
  | k + 1, x0, x1 => s0c (transomref37_word.f k) (s1 k) some x0 x1
def s1 : Nat → S1 R
  | 0, _, _ => none
  | k + 1, x0, x1 => s1c (s2 k) some x0 x1
def s2 : Nat → S2 R
  | 0, _ => none
  | k + 1, x0 => s2c (transomref37_word.f k) (transomref37_named.f k) (transomref37_values.f k) some x0
end
def f (k : Nat) (a0 : D_api_Op) : Option R := c (transomref37_scan.f k) (transomref37_Change.f k) (s0 k) some a0
noncomputable abbrev E (k : Nat) : FEnv := env (transomref37_scan.f k) (transomref37_Change.f k) (transomref37_word.f k) (transomref37_named.f k) (transomref37_values.f k) (s0 k) (s1 k) (s2 k)
theorem hE (k : Nat) : EnvOK (E k).toEnv := ctsOK (Lc (transomref37_scan.ok k) (Lc (transomref37_Change.ok k) (Lc (transomref37_word.ok k) (Lc (transomref37_named.ok k) (Lc (transomref37_values.ok k) L0)))))
theorem segs_ok : ∀ k, ∀ s ∈ [sg0 (s0 k), sg1 (s1 k), sg2 (s2 k)], SegB prog f35 0 s
  | 0 => (Lc (sg_none (Lc (fun _ _ => rfl) L0)) (Lc (sg_none (Lc (fun _ _ => rfl) L0)) (Lc (sg_none (Lc (fun _ _ => rfl) L0)) L0)))
  | k + 1 => (Lc (sg_ok (hE k) (segs_ok k) (Lc s0_ev L0)) (Lc (sg_ok (hE k) (segs_ok k) (Lc s1_ev L0)) (Lc (sg_ok (hE k) (segs_ok k) (Lc s2_ev L0)) L0)))
theorem ok (k : Nat) : CtOK prog 35 (ct (f k)) := fn_ok func35 rfl (by decide) (hE k) (segs_ok k) (Lc ev L0)
end transomref37_op
namespace transomref37_Line
abbrev R : Type := ByteArray × Int
def e (r : R) : Res := ⟨.tup [(.one (.d .str r.1)), (.one (.d (.int .i64) r.2))], []⟩
abbrev T (δ : Type) : Type := D_api_Step → Option δ
abbrev A {δ : Type} (g : T δ) : Arm δ := ⟨[.s T_api_Step], [], fun x y => g x.1.1⟩
abbrev G : Type := T R
def ct (g : G) : Ct := mkCt 0 [] [A g] e
abbrev S0 (δ : Type) : Type := Bool → D_api_Step → Option δ
abbrev A_0 {δ : Type} (s : S0 δ) : Arm δ := ⟨[.k (.ptr 0 0), .d .bool], [.box [.g T_api_Step]], fun x y => s x.2.1 y.1.1⟩
abbrev S1 (δ : Type) : Type := D_api_Step → Option δ
abbrev A_1 {δ : Type} (s : S1 δ) : Arm δ := ⟨[.k (.ptr 0 0)], [.box [.g T_api_Step]], fun x y => s y.1.1⟩
def sg0 (s : S0 R) : Seg := mkSg [1, 3, 1, 3, 1, 3, 1, 3, 1, 4, 1, 0, 1] [] [1, 17] [A_0 s] e
def sg1 (s : S1 R) : Seg := mkSg [1, 1] [] [1] [A_1 s] e
section
variable {β : Type} (g34 : transomref37_small.G) (g35 : transomref37_op.G) (s0 : S0 R) (s1 : S1 R)
noncomputable abbrev env : FEnv := mkEnv prog f19 [(34, transomref37_small.ct g34), (35, transomref37_op.ct g35)] 0 [] [sg0 s0, sg1 s1]
def c (ret : R → Option β) (a0 : D_api_Step) : Option β := (bif (a0.1 == (3 : Int)) then (ret ((ByteArray.mk (List.toArray [(109 : UInt8), (105 : UInt8), (103 : UInt8), (114 : UInt8), (97 : UInt8), (116 : UInt8), (101 : UInt8)])), (0 : Int))) else (bif (a0.1 == (4 : Int)) then (ret ((ByteArray.mk (List.toArray [(116 : UInt8), (105 : UInt8), (99 : UInt8), (107 : UInt8)])), (0 : Int))) else (bif (a0.1 == (5 : Int)) then (ret ((ByteArray.mk (List.toArray [(99 : UInt8), (111 : UInt8), (108 : UInt8), (108 : UInt8), (101 : UInt8), (99 : UInt8), (116 : UInt8)])), (0 : Int))) else (bif (a0.1 == (6 : Int)) then (ret ((ByteArray.mk (List.toArray [(102 : UInt8), (114 : UInt8), (101 : UInt8), (101 : UInt8)])), (0 : Int))) else (bif (a0.1 == (1 : Int)) then ((s0 (a0.1 == (1 : Int)) a0).bind ret) else ((s0 (a0.1 == (2 : Int)) a0).bind ret))))))
def s0c (ret : R → Option β) (x0 : Bool) (x1 : D_api_Step) : Option β := (bif x0 then ((s1 x1).bind ret) else (ret ((ByteArray.mk (List.toArray [])), (1 : Int))))
def s1c (ret : R → Option β) (x0 : D_api_Step) : Option β := ((g34 x0.2.1).bind fun r0 => (bif (r0.2 != (0 : Int)) then (ret ((ByteArray.mk (List.toArray [])), r0.2)) else (bif (x0.1 == (2 : Int)) then (bif (true && (decide (r0.1.size ≤ (4611686018427387903 : Nat)))) then (ret (((ByteArray.mk (List.toArray [(114 : UInt8), (117 : UInt8), (110 : UInt8)])) ++ r0.1), (0 : Int))) else none) else ((g35 x0.2.2.1).bind fun r1 => (bif (r1.2 != (0 : Int)) then (ret ((ByteArray.mk (List.toArray [])), r1.2)) else (bif (true && (decide (r0.1.size ≤ (4611686018427387903 : Nat)))) then (bif ((decide ((ByteArray.size ((ByteArray.mk (List.toArray [(97 : UInt8), (115 : UInt8), (107 : UInt8)])) ++ r0.1)) ≤ (4611686018427387903 : Nat))) && true) then (bif ((decide ((ByteArray.size (((ByteArray.mk (List.toArray [(97 : UInt8), (115 : UInt8), (107 : UInt8)])) ++ r0.1) ++ (ByteArray.mk (List.toArray [(32 : UInt8)])))) ≤ (4611686018427387903 : Nat))) && (decide (r1.1.size ≤ (4611686018427387903 : Nat)))) then (ret (((((ByteArray.mk (List.toArray [(97 : UInt8), (115 : UInt8), (107 : UInt8)])) ++ r0.1) ++ (ByteArray.mk (List.toArray [(32 : UInt8)]))) ++ r1.1), (0 : Int))) else none) else none) else none))))))
variable {g34} {g35} {s0} {s1}
theorem ev : EvA (env g34 g35 s0 s1) [] [0] e (A (c s0 some)) := fun x y => Eq.trans (b := (A (c s0 fun r => some (e r))).G x y) (by kernel_rfl) (by simp only [A, c, bif_bind, sum_bind, oa, os, on, ofs])
theorem s0_ev : EvA (env g34 g35 s0 s1) [1, 3, 1, 3, 1, 3, 1, 3, 1, 4, 1, 0, 1] [1, 17] e (A_0 (s0c s1 some)) := fun x y => Eq.trans (b := (A_0 (s0c s1 fun r => some (e r))).G x y) (by kernel_rfl) (by simp only [A_0, s0c, bif_bind, sum_bind, oa, os, on, ofs])
theorem s1_ev : EvA (env g34 g35 s0 s1) [1, 1] [1] e (A_1 (s1c g34 g35 some)) := fun x y => Eq.trans (b := (A_1 (s1c g34 g35 fun r => some (e r))).G x y) (by kernel_rfl) (by simp only [A_1, s1c, bif_bind, sum_bind, oa, os, on, ofs])
end
mutual
def s0 : Nat → S0 R
  | 0, _, _ => none
  | k + 1, x0, x1 => s0c (s1 k) some x0 x1
def s1 : Nat → S1 R
  | 0, _ => none
  | k + 1, x0 => s1c (transomref37_small.f k) (transomref37_op.f k) some x0
end
def f (k : Nat) (a0 : D_api_Step) : Option R := c (s0 k) some a0
noncomputable abbrev E (k : Nat) : FEnv := env (transomref37_small.f k) (transomref37_op.f k) (s0 k) (s1 k)
theorem hE (k : Nat) : EnvOK (E k).toEnv := ctsOK (Lc (transomref37_small.ok k) (Lc (transomref37_op.ok k) L0))
theorem segs_ok : ∀ k, ∀ s ∈ [sg0 (s0 k), sg1 (s1 k)], SegB prog f19 0 s
  | 0 => (Lc (sg_none (Lc (fun _ _ => rfl) L0)) (Lc (sg_none (Lc (fun _ _ => rfl) L0)) L0))
  | k + 1 => (Lc (sg_ok (hE k) (segs_ok k) (Lc s0_ev L0)) (Lc (sg_ok (hE k) (segs_ok k) (Lc s1_ev L0)) L0))
theorem ok (k : Nat) : CtOK prog 19 (ct (f k)) := fn_ok func19 rfl (by decide) (hE k) (segs_ok k) (Lc ev L0)
end transomref37_Line
namespace transomref42_show
def e (r : ByteArray) : Res := ⟨.v (.one (.d .str r)), []⟩
abbrev T (δ : Type) : Type := Int → Int → Int → ByteArray → Option δ
abbrev A {δ : Type} (g : T δ) : Arm δ := ⟨[.s T_api_Value], [], fun x y => g x.1.1.1 x.1.1.2.1 x.1.1.2.2.1 x.1.1.2.2.2.1⟩
abbrev G : Type := T ByteArray
def ct (g : G) : Ct := mkCt 0 [] [A g] e
section
variable {β : Type} (g66 : transomref36_Show.G)
noncomputable abbrev env : FEnv := mkEnv prog f52 [(66, transomref36_Show.ct g66)] 0 [] []
def c (ret : ByteArray → Option β) (a0 : Int) (a1 : Int) (a2 : Int) (a3 : ByteArray) : Option β := ((g66 a0 a1 a2 a3).bind fun r0 => (bif (r0.2 != (0 : Int)) then (ret ((ByteArray.mk (List.toArray [(63 : UInt8)])))) else (ret (r0.1))))
variable {g66}
theorem ev : EvA (env g66) [] [0] e (A (c g66 some)) := fun x y => Eq.trans (b := (A (c g66 fun r => some (e r))).G x y) (by kernel_rfl) (by simp only [A, c, bif_bind, sum_bind, oa, os, on, ofs])
end
def f (k : Nat) (a0 : Int) (a1 : Int) (a2 : Int) (a3 : ByteArray) : Option ByteArray := c (transomref36_Show.f k) some a0 a1 a2 a3
noncomputable abbrev E (k : Nat) : FEnv := env (transomref36_Show.f k) 
theorem hE (k : Nat) : EnvOK (E k).toEnv := ctsOK (Lc (transomref36_Show.ok k) L0)
theorem ok (k : Nat) : CtOK prog 52 (ct (f k)) := fn_ok func52 rfl (by decide) (hE k) L0 (Lc ev L0)
end transomref42_show
namespace transomref42_values
def e (r : ByteArray) : Res := ⟨.v (.one (.d .str r)), []⟩
abbrev T (δ : Type) : Type := (List D_api_Value) → Option δ
abbrev A {δ : Type} (g : T δ) : Arm δ := ⟨[.d (.sl T_api_Value)], [], fun x y => g x.1⟩
abbrev G : Type := T ByteArray
def ct (g : G) : Ct := mkCt 0 [] [A g] e
abbrev S0 (δ : Type) : Type := (List D_api_Value) → ByteArray → Int → Option δ
abbrev A_0 {δ : Type} (s : S0 δ) : Arm δ := ⟨[.d (.sl T_api_Value), .d .str, .d (.int .i64)], [], fun x y => s x.1 x.2.1 x.2.2.1⟩
def sg0 (s : S0 ByteArray) : Seg := mkSg [4, 1, 0, 1, 1] [] [0, 3, 4] [A_0 s] e
section
variable {β : Type} (g52 : transomref42_show.G) (s0 : S0 ByteArray)
noncomputable abbrev env : FEnv := mkEnv prog f36 [(52, transomref42_show.ct g52)] 0 [] [sg0 s0]
def c (ret : ByteArray → Option β) (a0 : List D_api_Value) : Option β := ((s0 a0 (ByteArray.mk (List.toArray [])) (0 : Int)).bind ret)
def s0c (ret : ByteArray → Option β) (x0 : List D_api_Value) (x1 : ByteArray) (x2 : Int) : Option β := (bif (decide (x2 < (x0.length : Int))) then (bif ((decide (x1.size ≤ (4611686018427387903 : Nat))) && true) then (bif ((decide ((0 : Int) ≤ x2)) && (decide (x2 < (x0.length : Int)))) then ((g52 (elem T_api_Value x0 x2).1 (elem T_api_Value x0 x2).2.1 (elem T_api_Value x0 x2).2.2.1 (elem T_api_Value x0 x2).2.2.2.1).bind fun r0 => (bif ((decide ((ByteArray.size (x1 ++ (ByteArray.mk (List.toArray [(32 : UInt8)])))) ≤ (4611686018427387903 : Nat))) && (decide (r0.size ≤ (4611686018427387903 : Nat)))) then ((s0 x0 ((x1 ++ (ByteArray.mk (List.toArray [(32 : UInt8)]))) ++ r0) (IntKind.wrap .i64 (x2 + (1 : Int)))).bind ret) else none)) else none) else none) else (ret (x1)))
variable {g52} {s0}
theorem ev : EvA (env g52 s0) [] [0] e (A (c s0 some)) := fun x y => Eq.trans (b := (A (c s0 fun r => some (e r))).G x y) (by kernel_rfl) (by simp only [A, c, bif_bind, sum_bind, oa, os, on, ofs])
theorem s0_ev : EvA (env g52 s0) [4, 1, 0, 1, 1] [0, 3, 4] e (A_0 (s0c g52 s0 some)) := fun x y => Eq.trans (b := (A_0 (s0c g52 s0 fun r => some (e r))).G x y) (by kernel_rfl) (by simp only [A_0, s0c, bif_bind, sum_bind, oa, os, on, ofs])
end
def s0 : Nat → S0 ByteArray
  | 0, _, _, _ => none
  | k + 1, x0, x1, x2 => s0c (transomref42_show.f k) (s0 k) some x0 x1 x2
def f (k : Nat) (a0 : List D_api_Value) : Option ByteArray := c (s0 k) some a0
noncomputable abbrev E (k : Nat) : FEnv := env (transomref42_show.f k) (s0 k)
theorem hE (k : Nat) : EnvOK (E k).toEnv := ctsOK (Lc (transomref42_show.ok k) L0)
theorem segs_ok : ∀ k, ∀ s ∈ [sg0 (s0 k)], SegB prog f36 0 s
  | 0 => (Lc (sg_none (Lc (fun _ _ => rfl) L0)) L0)
  | k + 1 => (Lc (sg_ok (hE k) (segs_ok k) (Lc s0_ev L0)) L0)
theorem ok (k : Nat) : CtOK prog 36 (ct (f k)) := fn_ok func36 rfl (by decide) (hE k) (segs_ok k) (Lc ev L0)
end transomref42_values
namespace transomref42_told
def e (r : ByteArray) : Res := ⟨.v (.one (.d .str r)), []⟩
abbrev T (δ : Type) : Type := Int → (List (List D_api_Value)) → Option δ
abbrev A {δ : Type} (g : T δ) : Arm δ := ⟨[.s T_api_Reply], [], fun x y => g x.1.1.1 x.1.1.2.1⟩
abbrev G : Type := T ByteArray
def ct (g : G) : Ct := mkCt 0 [] [A g] e
abbrev S0 (δ : Type) : Type := ByteArray → Int → (List (List D_api_Value)) → Option δ
abbrev A_0 {δ : Type} (s : S0 δ) : Arm δ := ⟨[.k (.ptr 0 0), .d .str], [.box [.g T_api_Reply]], fun x y => s x.2.1 y.1.1.1 y.1.1.2.1⟩
abbrev S1 (δ : Type) : Type := ByteArray → Int → Int → (List (List D_api_Value)) → Option δ
abbrev A_1 {δ : Type} (s : S1 δ) : Arm δ := ⟨[.k (.ptr 0 0), .d .str, .d (.int .i64)], [.box [.g T_api_Reply]], fun x y => s x.2.1 x.2.2.1 y.1.1.1 y.1.1.2.1⟩
def sg0 (s : S0 ByteArray) : Seg := mkSg [1, 1, 1] [] [1, 3] [A_0 s] e
def sg1 (s : S1 ByteArray) : Seg := mkSg [4, 1, 0, 1, 1, 1] [] [1, 3, 4] [A_1 s] e
section
variable {β : Type} (g18 : transomref07_Digits.G) (g36 : transomref42_values.G) (s0 : S0 ByteArray) (s1 : S1 ByteArray)
noncomputable abbrev env : FEnv := mkEnv prog f20 [(18, transomref07_Digits.ct g18), (36, transomref42_values.ct g36)] 0 [] [sg0 s0, sg1 s1]
def c (ret : ByteArray → Option β) (a0 : Int) (a1 : List (List D_api_Value)) : Option β := (bif (a0 != (0 : Int)) then ((g18 a0).bind fun r0 => (bif (true && (decide (r0.size ≤ (4611686018427387903 : Nat)))) then ((s0 ((ByteArray.mk (List.toArray [(101 : UInt8), (114 : UInt8), (114 : UInt8), (111 : UInt8), (114 : UInt8), (32 : UInt8)])) ++ r0) a0 a1).bind ret) else none)) else ((s0 (ByteArray.mk (List.toArray [(111 : UInt8), (107 : UInt8)])) a0 a1).bind ret))
def s0c (ret : ByteArray → Option β) (x0 : ByteArray) (x1 : Int) (x2 : List (List D_api_Value)) : Option β := ((s1 x0 (0 : Int) x1 x2).bind ret)
def s1c (ret : ByteArray → Option β) (x0 : ByteArray) (x1 : Int) (x2 : Int) (x3 : List (List D_api_Value)) : Option β := (bif (decide (x1 < (x3.length : Int))) then (bif ((decide (x0.size ≤ (4611686018427387903 : Nat))) && true) then (bif ((decide ((0 : Int) ≤ x1)) && (decide (x1 < (x3.length : Int)))) then ((g36 (elem (Ty.sl T_api_Value) x3 x1)).bind fun r0 => (bif ((decide ((ByteArray.size (x0 ++ (ByteArray.mk (List.toArray [(32 : UInt8), (124 : UInt8)])))) ≤ (4611686018427387903 : Nat))) && (decide (r0.size ≤ (4611686018427387903 : Nat)))) then ((s1 ((x0 ++ (ByteArray.mk (List.toArray [(32 : UInt8), (124 : UInt8)]))) ++ r0) (IntKind.wrap .i64 (x1 + (1 : Int))) x2 x3).bind ret) else none)) else none) else none) else (ret (x0)))
variable {g18} {g36} {s0} {s1}
theorem ev : EvA (env g18 g36 s0 s1) [] [0] e (A (c g18 s0 some)) := fun x y => Eq.trans (b := (A (c g18 s0 fun r => some (e r))).G x y) (by kernel_rfl) (by simp only [A, c, bif_bind, sum_bind, oa, os, on, ofs])
theorem s0_ev : EvA (env g18 g36 s0 s1) [1, 1, 1] [1, 3] e (A_0 (s0c s1 some)) := fun x y => Eq.trans (b := (A_0 (s0c s1 fun r => some (e r))).G x y) (by kernel_rfl) (by simp only [A_0, s0c, bif_bind, sum_bind, oa, os, on, ofs])
theorem s1_ev : EvA (env g18 g36 s0 s1) [4, 1, 0, 1, 1, 1] [1, 3, 4] e (A_1 (s1c g36 s1 some)) := fun x y => Eq.trans (b := (A_1 (s1c g36 s1 fun r => some (e r))).G x y) (by kernel_rfl) (by simp only [A_1, s1c, bif_bind, sum_bind, oa, os, on, ofs])
end
mutual
def s0 : Nat → S0 ByteArray
  | 0, _, _, _ => none
  | k + 1, x0, x1, x2 => s0c (s1 k) some x0 x1 x2
def s1 : Nat → S1 ByteArray
  | 0, _, _, _, _ => none
  | k + 1, x0, x1, x2, x3 => s1c (transomref42_values.f k) (s1 k) some x0 x1 x2 x3
end
def f (k : Nat) (a0 : Int) (a1 : List (List D_api_Value)) : Option ByteArray := c (transomref07_Digits.f k) (s0 k) some a0 a1
noncomputable abbrev E (k : Nat) : FEnv := env (transomref07_Digits.f k) (transomref42_values.f k) (s0 k) (s1 k)
theorem hE (k : Nat) : EnvOK (E k).toEnv := ctsOK (Lc (transomref07_Digits.ok k) (Lc (transomref42_values.ok k) L0))
theorem segs_ok : ∀ k, ∀ s ∈ [sg0 (s0 k), sg1 (s1 k)], SegB prog f20 0 s
  | 0 => (Lc (sg_none (Lc (fun _ _ => rfl) L0)) (Lc (sg_none (Lc (fun _ _ => rfl) L0)) L0))
  | k + 1 => (Lc (sg_ok (hE k) (segs_ok k) (Lc s0_ev L0)) (Lc (sg_ok (hE k) (segs_ok k) (Lc s1_ev L0)) L0))
theorem ok (k : Nat) : CtOK prog 20 (ct (f k)) := fn_ok func20 rfl (by decide) (hE k) (segs_ok k) (Lc ev L0)
end transomref42_told
namespace transomref42_Event
def e (r : ByteArray) : Res := ⟨.v (.one (.d .str r)), []⟩
abbrev T (δ : Type) : Type := Int → Int → Int → Int → (List D_api_Op) → (List D_api_Reply) → Option δ
abbrev A {δ : Type} (g : T δ) : Arm δ := ⟨[.s T_api_Event], [], fun x y => g x.1.1.1 x.1.1.2.1 x.1.1.2.2.1 x.1.1.2.2.2.1 x.1.1.2.2.2.2.1 x.1.1.2.2.2.2.2.1⟩
abbrev G : Type := T ByteArray
def ct (g : G) : Ct := mkCt 0 [] [A g] e
abbrev S0 (δ : Type) : Type := ByteArray → Int → Int → Int → Int → Int → (List D_api_Op) → (List D_api_Reply) → (List Int) → Option δ
abbrev A_0 {δ : Type} (s : S0 δ) : Arm δ := ⟨[.k (.ptr 0 0), .d .str, .k (.arr 1 4), .d (.int .i64)], [.box [.g T_api_Event], .own (.int .i64) true], fun x y => s x.2.1 x.2.2.2.1 y.1.1.1 y.1.1.2.1 y.1.1.2.2.1 y.1.1.2.2.2.1 y.1.1.2.2.2.2.1 y.1.1.2.2.2.2.2.1 y.2.1⟩
abbrev S1 (δ : Type) : Type := ByteArray → Int → Int → Int → Int → Int → (List D_api_Op) → (List D_api_Reply) → Option δ
abbrev A_1 {δ : Type} (s : S1 δ) : Arm δ := ⟨[.k (.ptr 0 0), .d .str, .d (.int .i64)], [.box [.g T_api_Event]], fun x y => s x.2.1 x.2.2.1 y.1.1.1 y.1.1.2.1 y.1.1.2.2.1 y.1.1.2.2.2.1 y.1.1.2.2.2.2.1 y.1.1.2.2.2.2.2.1⟩
abbrev S2 (δ : Type) : Type := ByteArray → Int → ByteArray → Int → Int → Int → Int → (List D_api_Op) → (List D_api_Reply) → Option δ
abbrev A_2 {δ : Type} (s : S2 δ) : Arm δ := ⟨[.k (.ptr 0 0), .d .str, .d (.int .i64), .d .str], [.box [.g T_api_Event]], fun x y => s x.2.1 x.2.2.1 x.2.2.2.1 y.1.1.1 y.1.1.2.1 y.1.1.2.2.1 y.1.1.2.2.2.1 y.1.1.2.2.2.2.1 y.1.1.2.2.2.2.2.1⟩
abbrev S3 (δ : Type) : Type := ByteArray → Int → Int → Int → Int → Int → (List D_api_Op) → (List D_api_Reply) → Option δ
abbrev A_3 {δ : Type} (s : S3 δ) : Arm δ := ⟨[.k (.ptr 0 0), .d .str, .d (.int .i64)], [.box [.g T_api_Event]], fun x y => s x.2.1 x.2.2.1 y.1.1.1 y.1.1.2.1 y.1.1.2.2.1 y.1.1.2.2.2.1 y.1.1.2.2.2.2.1 y.1.1.2.2.2.2.2.1⟩
def sg0 (s : S0 ByteArray) : Seg := mkSg [4, 1, 0, 1, 1, 1] [] [1, 3, 4, 5] [A_0 s] e
def sg1 (s : S1 ByteArray) : Seg := mkSg [4, 1, 0, 1, 1, 1, 1, 1] [] [1, 3, 6] [A_1 s] e
def sg2 (s : S2 ByteArray) : Seg := mkSg [1, 1, 4, 0, 1, 5, 4, 1, 0, 1, 1, 1, 1, 1] [] [1, 3, 6, 7] [A_2 s] e
def sg3 (s : S3 ByteArray) : Seg := mkSg [1, 1, 5, 4, 1, 0, 1, 1, 1, 1, 1] [] [1, 3, 6] [A_3 s] e
section
variable {β : Type} (g18 : transomref07_Digits.G) (g19 : transomref37_Line.G) (g20 : transomref42_told.G) (s0 : S0 ByteArray) (s1 : S1 ByteArray) (s2 : S2 ByteArray) (s3 : S3 ByteArray)
noncomputable abbrev env : FEnv := mkEnv prog f7 [(18, transomref07_Digits.ct g18), (19, transomref37_Line.ct g19), (20, transomref42_told.ct g20)] 0 [] [sg0 s0, sg1 s1, sg2 s2, sg3 s3]
def c (ret : ByteArray → Option β) (a0 : Int) (a1 : Int) (a2 : Int) (a3 : Int) (a4 : List D_api_Op) (a5 : List D_api_Reply) : Option β := ((s0 (ByteArray.mk (List.toArray [(101 : UInt8), (118 : UInt8), (101 : UInt8), (110 : UInt8), (116 : UInt8)])) (0 : Int) a0 a1 a2 a3 a4 a5 [a0, a1, a2, a3]).bind ret)
def s0c (ret : ByteArray → Option β) (x0 : ByteArray) (x1 : Int) (x2 : Int) (x3 : Int) (x4 : Int) (x5 : Int) (x6 : List D_api_Op) (x7 : List D_api_Reply) (x8 : List Int) : Option β := (bif (decide (x1 < (4 : Int))) then (bif ((decide (x0.size ≤ (4611686018427387903 : Nat))) && true) then (bif ((decide ((0 : Int) ≤ x1)) && (decide (x1 < (4 : Int)))) then ((g18 (elem (Ty.int IntKind.i64) x8 x1)).bind fun r0 => (bif ((decide ((ByteArray.size (x0 ++ (ByteArray.mk (List.toArray [(32 : UInt8)])))) ≤ (4611686018427387903 : Nat))) && (decide (r0.size ≤ (4611686018427387903 : Nat)))) then ((s0 ((x0 ++ (ByteArray.mk (List.toArray [(32 : UInt8)]))) ++ r0) (IntKind.wrap .i64 (x1 + (1 : Int))) x2 x3 x4 x5 x6 x7 x8).bind ret) else none)) else none) else none) else (bif ((decide (x0.size ≤ (4611686018427387903 : Nat))) && true) then ((s1 (x0 ++ (ByteArray.mk (List.toArray [(10 : UInt8)]))) (0 : Int) x2 x3 x4 x5 x6 x7).bind ret) else none))
def s1c (ret : ByteArray → Option β) (x0 : ByteArray) (x1 : Int) (x2 : Int) (x3 : Int) (x4 : Int) (x5 : Int) (x6 : List D_api_Op) (x7 : List D_api_Reply) : Option β := (bif (decide (x1 < (x6.length : Int))) then (bif ((decide ((0 : Int) ≤ x1)) && (decide (x1 < (x6.length : Int)))) then ((g19 ((1 : Int), (x2, ((elem T_api_Op x6 x1), ())))).bind fun r0 => (bif (r0.2 != (0 : Int)) then ((s2 x0 x1 (ByteArray.mk (List.toArray [(63 : UInt8)])) x2 x3 x4 x5 x6 x7).bind ret) else ((s2 x0 x1 r0.1 x2 x3 x4 x5 x6 x7).bind ret))) else none) else (ret (x0)))
def s2c (ret : ByteArray → Option β) (x0 : ByteArray) (x1 : Int) (x2 : ByteArray) (x3 : Int) (x4 : Int) (x5 : Int) (x6 : Int) (x7 : List D_api_Op) (x8 : List D_api_Reply) : Option β := (bif ((decide (x0.size ≤ (4611686018427387903 : Nat))) && true) then (bif ((decide ((ByteArray.size (x0 ++ (ByteArray.mk (List.toArray [(32 : UInt8), (32 : UInt8)])))) ≤ (4611686018427387903 : Nat))) && (decide (x2.size ≤ (4611686018427387903 : Nat)))) then (bif ((decide ((ByteArray.size ((x0 ++ (ByteArray.mk (List.toArray [(32 : UInt8), (32 : UInt8)]))) ++ x2)) ≤ (4611686018427387903 : Nat))) && true) then (bif (decide (x1 < (x8.length : Int))) then (bif ((decide ((0 : Int) ≤ x1)) && (decide (x1 < (x8.length : Int)))) then ((g20 (elem T_api_Reply x8 x1).1 (elem T_api_Reply x8 x1).2.1).bind fun r0 => (bif ((decide ((ByteArray.size (((x0 ++ (ByteArray.mk (List.toArray [(32 : UInt8), (32 : UInt8)]))) ++ x2) ++ (ByteArray.mk (List.toArray [(10 : UInt8)])))) ≤ (4611686018427387903 : Nat))) && (decide (r0.size ≤ (4611686018427387903 : Nat)))) then (bif ((decide ((ByteArray.size ((((x0 ++ (ByteArray.mk (List.toArray [(32 : UInt8), (32 : UInt8)]))) ++ x2) ++ (ByteArray.mk (List.toArray [(10 : UInt8)]))) ++ r0)) ≤ (4611686018427387903 : Nat))) && true) then ((s3 (((((x0 ++ (ByteArray.mk (List.toArray [(32 : UInt8), (32 : UInt8)]))) ++ x2) ++ (ByteArray.mk (List.toArray [(10 : UInt8)]))) ++ r0) ++ (ByteArray.mk (List.toArray [(10 : UInt8)]))) x1 x3 x4 x5 x6 x7 x8).bind ret) else none) else none)) else none) else ((s3 (((x0 ++ (ByteArray.mk (List.toArray [(32 : UInt8), (32 : UInt8)]))) ++ x2) ++ (ByteArray.mk (List.toArray [(10 : UInt8)]))) x1 x3 x4 x5 x6 x7 x8).bind ret)) else none) else none) else none)
def s3c (ret : ByteArray → Option β) (x0 : ByteArray) (x1 : Int) (x2 : Int) (x3 : Int) (x4 : Int) (x5 : Int) (x6 : List D_api_Op) (x7 : List D_api_Reply) : Option β := ((s1 x0 (IntKind.wrap .i64 (x1 + (1 : Int))) x2 x3 x4 x5 x6 x7).bind ret)
variable {g18} {g19} {g20} {s0} {s1} {s2} {s3}
theorem ev : EvA (env g18 g19 g20 s0 s1 s2 s3) [] [0] e (A (c s0 some)) := fun x y => Eq.trans (b := (A (c s0 fun r => some (e r))).G x y) (by kernel_rfl) (by simp only [A, c, bif_bind, sum_bind, oa, os, on, ofs])
theorem s0_ev : EvA (env g18 g19 g20 s0 s1 s2 s3) [4, 1, 0, 1, 1, 1] [1, 3, 4, 5] e (A_0 (s0c g18 s0 s1 some)) := fun x y => Eq.trans (b := (A_0 (s0c g18 s0 s1 fun r => some (e r))).G x y) (by kernel_rfl) (by simp only [A_0, s0c, bif_bind, sum_bind, oa, os, on, ofs])
theorem s1_ev : EvA (env g18 g19 g20 s0 s1 s2 s3) [4, 1, 0, 1, 1, 1, 1, 1] [1, 3, 6] e (A_1 (s1c g19 s2 some)) := fun x y => Eq.trans (b := (A_1 (s1c g19 s2 fun r => some (e r))).G x y) (by kernel_rfl) (by simp only [A_1, s1c, bif_bind, sum_bind, oa, os, on, ofs])
theorem s2_ev : EvA (env g18 g19 g20 s0 s1 s2 s3) [1, 1, 4, 0, 1, 5, 4, 1, 0, 1, 1, 1, 1, 1] [1, 3, 6, 7] e (A_2 (s2c g20 s3 some)) := fun x y => Eq.trans (b := (A_2 (s2c g20 s3 fun r => some (e r))).G x y) (by kernel_rfl) (by simp only [A_2, s2c, bif_bind, sum_bind, oa, os, on, ofs])
theorem s3_ev : EvA (env g18 g19 g20 s0 s1 s2 s3) [1, 1, 5, 4, 1, 0, 1, 1, 1, 1, 1] [1, 3, 6] e (A_3 (s3c s1 some)) := fun x y => Eq.trans (b := (A_3 (s3c s1 fun r => some (e r))).G x y) (by kernel_rfl) (by simp only [A_3, s3c, bif_bind, sum_bind, oa, os, on, ofs])
end
mutual
def s0 : Nat → S0 ByteArray
  | 0, _, _, _, _, _, _, _, _, _ => none
  | k + 1, x0, x1, x2, x3, x4, x5, x6, x7, x8 => s0c (transomref07_Digits.f k) (s0 k) (s1 k) some x0 x1 x2 x3 x4 x5 x6 x7 x8
def s1 : Nat → S1 ByteArray
  | 0, _, _, _, _, _, _, _, _ => none
  | k + 1, x0, x1, x2, x3, x4, x5, x6, x7 => s1c (transomref37_Line.f k) (s2 k) some x0 x1 x2 x3 x4 x5 x6 x7
def s2 : Nat → S2 ByteArray
  | 0, _, _, _, _, _, _, _, _, _ => none
  | k + 1, x0, x1, x2, x3, x4, x5, x6, x7, x8 => s2c (transomref42_told.f k) (s3 k) some x0 x1 x2 x3 x4 x5 x6 x7 x8
def s3 : Nat → S3 ByteArray
  | 0, _, _, _, _, _, _, _, _ => none
  | k + 1, x0, x1, x2, x3, x4, x5, x6, x7 => s3c (s1 k) some x0 x1 x2 x3 x4 x5 x6 x7
end
def f (k : Nat) (a0 : Int) (a1 : Int) (a2 : Int) (a3 : Int) (a4 : List D_api_Op) (a5 : List D_api_Reply) : Option ByteArray := c (s0 k) some a0 a1 a2 a3 a4 a5
noncomputable abbrev E (k : Nat) : FEnv := env (transomref07_Digits.f k) (transomref37_Line.f k) (transomref42_told.f k) (s0 k) (s1 k) (s2 k) (s3 k)
theorem hE (k : Nat) : EnvOK (E k).toEnv := ctsOK (Lc (transomref07_Digits.ok k) (Lc (transomref37_Line.ok k) (Lc (transomref42_told.ok k) L0)))
theorem segs_ok : ∀ k, ∀ s ∈ [sg0 (s0 k), sg1 (s1 k), sg2 (s2 k), sg3 (s3 k)], SegB prog f7 0 s
  | 0 => (Lc (sg_none (Lc (fun _ _ => rfl) L0)) (Lc (sg_none (Lc (fun _ _ => rfl) L0)) (Lc (sg_none (Lc (fun _ _ => rfl) L0)) (Lc (sg_none (Lc (fun _ _ => rfl) L0)) L0))))
  | k + 1 => (Lc (sg_ok (hE k) (segs_ok k) (Lc s0_ev L0)) (Lc (sg_ok (hE k) (segs_ok k) (Lc s1_ev L0)) (Lc (sg_ok (hE k) (segs_ok k) (Lc s2_ev L0)) (Lc (sg_ok (hE k) (segs_ok k) (Lc s3_ev L0)) L0))))
theorem ok (k : Nat) : CtOK prog 7 (ct (f k)) := fn_ok func7 rfl (by decide) (hE k) (segs_ok k) (Lc ev L0)
end transomref42_Event
namespace transomref42_Told
def e (r : ByteArray) : Res := ⟨.v (.one (.d .str r)), []⟩
abbrev T (δ : Type) : Type := Bool → Int → (List (List D_api_Value)) → Option δ
abbrev A {δ : Type} (g : T δ) : Arm δ := ⟨[.s T_api_Told], [], fun x y => g x.1.1.1 x.1.1.2.1.1 x.1.1.2.1.2.1⟩
abbrev G : Type := T ByteArray
def ct (g : G) : Ct := mkCt 0 [] [A g] e
section
variable {β : Type} (g20 : transomref42_told.G)
noncomputable abbrev env : FEnv := mkEnv prog f9 [(20, transomref42_told.ct g20)] 0 [] []
def c (ret : ByteArray → Option β) (a0 : Bool) (a1 : Int) (a2 : List (List D_api_Value)) : Option β := (bif (!a0) then (ret ((ByteArray.mk (List.toArray [(110 : UInt8), (111 : UInt8), (116 : UInt8), (32 : UInt8), (121 : UInt8), (101 : UInt8), (116 : UInt8), (10 : UInt8)])))) else ((g20 a1 a2).bind fun r0 => (bif ((decide (r0.size ≤ (4611686018427387903 : Nat))) && true) then (ret ((r0 ++ (ByteArray.mk (List.toArray [(10 : UInt8)]))))) else none)))
variable {g20}
theorem ev : EvA (env g20) [] [0] e (A (c g20 some)) := fun x y => Eq.trans (b := (A (c g20 fun r => some (e r))).G x y) (by kernel_rfl) (by simp only [A, c, bif_bind, sum_bind, oa, os, on, ofs])
end
def f (k : Nat) (a0 : Bool) (a1 : Int) (a2 : List (List D_api_Value)) : Option ByteArray := c (transomref42_told.f k) some a0 a1 a2
noncomputable abbrev E (k : Nat) : FEnv := env (transomref42_told.f k) 
theorem hE (k : Nat) : EnvOK (E k).toEnv := ctsOK (Lc (transomref42_told.ok k) L0)
theorem ok (k : Nat) : CtOK prog 9 (ct (f k)) := fn_ok func9 rfl (by decide) (hE k) L0 (Lc ev L0)
end transomref42_Told
end Go.Proofs.Ythaannpgcbpjkaa.Aev
