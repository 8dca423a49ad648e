/- By a program of this session (AEV): functions of the program as plain functions, and that the machine does what they say. -/
import Derived.Test.YtimadphjdkjgaaaGreatDoorTys
import Derived.Test.YtimadphjdkjgaaaGreatDoorProg
import Derived.Laws.Externs
import Derived.Lib.Bytealg
import Derived.Test.YtimadphjdkjgaaaGreatDoorF2
import Derived.Test.YtimadphjdkjgaaaGreatDoorF7
import Derived.Test.YtimadphjdkjgaaaGreatDoorF9
namespace Go.Proofs.YtimadphjdkjgaaaGreatDoor.Aev
set_option linter.unusedVariables false
set_option linter.unusedSimpArgs false
set_option maxRecDepth 100000
set_option maxHeartbeats 4000000
open Go Go.Proofs.Tryz
namespace transomref37_Change
abbrev R : Type := ByteArray × Int
def e (r : R) : Res := ⟨.tup [(.one (.d .str r.1)), (.one (.d (.int .i64) r.2))], []⟩
abbrev T (δ : Type) : Type := D_api_Change → Option δ
abbrev A {δ : Type} (g : T δ) : Arm δ := ⟨[.s T_api_Change], [], fun x y => g x.1.1⟩
abbrev G : Type := T R
def ct (g : G) : Ct := mkCt 0 [] [A g] e
section
variable {β : Type} (g35 : transomref37_create.G) (g36 : transomref37_named.G) (g37 : transomref37_col.G) (g38 : transomref37_kind.G) (g39 : transomref37_split.G)
noncomputable abbrev env : FEnv := mkEnv prog f16 [(35, transomref37_create.ct g35), (36, transomref37_named.ct g36), (37, transomref37_col.ct g37), (38, transomref37_kind.ct g38), (39, transomref37_split.ct g39)] 0 [] []
def c (ret : R → Option β) (a0 : D_api_Change) : Option β := (bif (a0.1 == (1 : Int)) then ((g35 a0.2.2.2.2.2.2.2.2.2.1.1 a0.2.2.2.2.2.2.2.2.2.1.2.1 a0.2.2.2.2.2.2.2.2.2.1.2.2.1).bind fun r0 => (bif (r0.2 != (0 : Int)) then (ret ((ByteArray.mk (List.toArray [])), r0.2)) else (ret (r0.1, (0 : Int))))) else (bif (a0.1 == (2 : Int)) then ((g36 (ByteArray.mk (List.toArray [(97 : UInt8), (100 : UInt8), (100 : UInt8)])) [a0.2.1]).bind fun r1 => (bif (r1.2 == (0 : Int)) then ((g37 a0.2.2.2.2.2.2.2.2.1.1 a0.2.2.2.2.2.2.2.2.1.2.1 a0.2.2.2.2.2.2.2.2.1.2.2.1 a0.2.2.2.2.2.2.2.2.1.2.2.2.1.1 a0.2.2.2.2.2.2.2.2.1.2.2.2.1.2.1 a0.2.2.2.2.2.2.2.2.1.2.2.2.1.2.2.1 a0.2.2.2.2.2.2.2.2.1.2.2.2.1.2.2.2.1).bind fun r2 => (bif ((decide (r1.1.size ≤ (4611686018427387903 : Nat))) && (decide (r2.1.size ≤ (4611686018427387903 : Nat)))) then (bif (r2.2 != (0 : Int)) then (ret ((ByteArray.mk (List.toArray [])), r2.2)) else (ret ((r1.1 ++ r2.1), (0 : Int)))) else none)) else (bif (r1.2 != (0 : Int)) then (ret ((ByteArray.mk (List.toArray [])), r1.2)) else (ret (r1.1, (0 : Int)))))) else (bif (a0.1 == (3 : Int)) then ((g36 (ByteArray.mk (List.toArray [(100 : UInt8), (114 : UInt8), (111 : UInt8), (112 : UInt8)])) [a0.2.1, a0.2.2.2.2.2.1]).bind fun r3 => (bif (r3.2 != (0 : Int)) then (ret ((ByteArray.mk (List.toArray [])), r3.2)) else (ret (r3.1, (0 : Int))))) else (bif (a0.1 == (4 : Int)) then ((g36 (ByteArray.mk (List.toArray [(114 : UInt8), (101 : UInt8), (116 : UInt8), (121 : UInt8), (112 : UInt8), (101 : UInt8)])) [a0.2.1, a0.2.2.2.2.2.1]).bind fun r4 => (bif (r4.2 == (0 : Int)) then ((g38 a0.2.2.2.2.2.2.1).bind fun r5 => (bif ((decide (r4.1.size ≤ (4611686018427387903 : Nat))) && (decide (r5.1.size ≤ (4611686018427387903 : Nat)))) then (bif (r5.2 != (0 : Int)) then (ret ((ByteArray.mk (List.toArray [])), r5.2)) else (ret ((r4.1 ++ r5.1), (0 : Int)))) else none)) else (bif (r4.2 != (0 : Int)) then (ret ((ByteArray.mk (List.toArray [])), r4.2)) else (ret (r4.1, (0 : Int)))))) else (bif (a0.1 == (5 : Int)) then ((g39 a0).bind fun r6 => (bif (r6.2 != (0 : Int)) then (ret ((ByteArray.mk (List.toArray [])), r6.2)) else (ret (r6.1, (0 : Int))))) else (bif (a0.1 == (6 : Int)) then ((g36 (ByteArray.mk (List.toArray [(109 : UInt8), (101 : UInt8), (114 : UInt8), (103 : UInt8), (101 : UInt8)])) [a0.2.1, a0.2.2.1, a0.2.2.2.1]).bind fun r7 => (bif (r7.2 != (0 : Int)) then (ret ((ByteArray.mk (List.toArray [])), r7.2)) else (ret (r7.1, (0 : Int))))) else (ret ((ByteArray.mk (List.toArray [])), (1 : Int)))))))))
variable {g35} {g36} {g37} {g38} {g39}
theorem ev : EvA (env g35 g36 g37 g38 g39) [] [0] e (A (c g35 g36 g37 g38 g39 some)) := fun x y => Eq.trans (b := (A (c g35 g36 g37 g38 g39 fun r => some (e r))).G x y) (by kernel_rfl) (by simp only [A, c, bif_bind, sum_bind, oa, os, on, ofs])
end
def f (k : Nat) (a0 : D_api_Change) : Option R := c (transomref37_create.f k) (transomref37_named.f k) (transomref37_col.f k) (transomref37_kind.f k) (transomref37_split.f k) some a0
noncomputable abbrev E (k : Nat) : FEnv := env (transomref37_create.f k) (transomref37_named.f k) (transomref37_col.f k) (transomref37_kind.f k) (transomref37_split.f k) 
theorem hE (k : Nat) : EnvOK (E k).toEnv := ctsOK (Lc (transomref37_create.ok k) (Lc (transomref37_named.ok k) (Lc (transomref37_col.ok k) (Lc (transomref37_kind.ok k) (Lc (transomref37_split.ok k) L0)))))
theorem ok (k : Nat) : CtOK prog 16 (ct (f k)) := fn_ok func16 rfl (by decide) (hE k) L0 (Lc ev L0)
end transomref37_Change
namespace transomref37_values
abbrev R : Type := ByteArray × Int
def e (r : R) : Res := ⟨.tup [(.one (.d .str r.1)), (.one (.d (.int .i64) r.2))], []⟩
abbrev T (δ : Type) : Type := (List D_api_Value) → Option δ
abbrev A {δ : Type} (g : T δ) : Arm δ := ⟨[.d (.sl T_api_Value)], [], fun x y => g x.1⟩
abbrev G : Type := T R
def ct (g : G) : Ct := mkCt 0 [] [A g] e
abbrev S0 (δ : Type) : Type := (List D_api_Value) → ByteArray → Int → Option δ
abbrev A_0 {δ : Type} (s : S0 δ) : Arm δ := ⟨[.d (.sl T_api_Value), .d .str, .d (.int .i64)], [], fun x y => s x.1 x.2.1 x.2.2.1⟩
def sg0 (s : S0 R) : Seg := mkSg [4, 1, 0, 1, 1, 1] [] [0, 4, 5] [A_0 s] e
section
variable {β : Type} (g67 : transomref36_Show.G) (s0 : S0 R)
noncomputable abbrev env : FEnv := mkEnv prog f63 [(67, transomref36_Show.ct g67)] 0 [] [sg0 s0]
def c (ret : R → Option β) (a0 : List D_api_Value) : Option β := (bif (decide ((a0.length : Int) > (8 : Int))) then (ret ((ByteArray.mk (List.toArray [])), (2 : Int))) else ((s0 a0 (ByteArray.mk (List.toArray [])) (0 : Int)).bind ret))
def s0c (ret : R → Option β) (x0 : List D_api_Value) (x1 : ByteArray) (x2 : Int) : Option β := (bif (decide (x2 < (x0.length : Int))) then (bif ((decide ((0 : Int) ≤ x2)) && (decide (x2 < (x0.length : Int)))) then ((g67 (elem T_api_Value x0 x2).1 (elem T_api_Value x0 x2).2.1 (elem T_api_Value x0 x2).2.2.1 (elem T_api_Value x0 x2).2.2.2.1).bind fun r0 => (bif (r0.2 != (0 : Int)) then (ret ((ByteArray.mk (List.toArray [])), r0.2)) else (bif ((decide (x1.size ≤ (4611686018427387903 : Nat))) && true) then (bif ((decide ((ByteArray.size (x1 ++ (ByteArray.mk (List.toArray [(32 : UInt8)])))) ≤ (4611686018427387903 : Nat))) && (decide (r0.1.size ≤ (4611686018427387903 : Nat)))) then ((s0 x0 ((x1 ++ (ByteArray.mk (List.toArray [(32 : UInt8)]))) ++ r0.1) (IntKind.wrap .i64 (x2 + (1 : Int)))).bind ret) else none) else none))) else none) else (ret (x1, (0 : Int))))
variable {g67} {s0}
theorem ev : EvA (env g67 s0) [] [0] e (A (c s0 some)) := fun x y => Eq.trans (b := (A (c s0 fun r => some (e r))).G x y) (by kernel_rfl) (by simp only [A, c, bif_bind, sum_bind, oa, os, on, ofs])
theorem s0_ev : EvA (env g67 s0) [4, 1, 0, 1, 1, 1] [0, 4, 5] e (A_0 (s0c g67 s0 some)) := fun x y => Eq.trans (b := (A_0 (s0c g67 s0 fun r => some (e r))).G x y) (by kernel_rfl) (by simp only [A_0, s0c, bif_bind, sum_bind, oa, os, on, ofs])
end
def s0 : Nat → S0 R
  | 0, _, _, _ => none
  | k + 1, x0, x1, x2 => s0c (transomref36_Show.f k) (s0 k) some x0 x1 x2
def f (k : Nat) (a0 : List D_api_Value) : Option R := c (s0 k) some a0
noncomputable abbrev E (k : Nat) : FEnv := env (transomref36_Show.f k) (s0 k)
theorem hE (k : Nat) : EnvOK (E k).toEnv := ctsOK (Lc (transomref36_Show.ok k) L0)
theorem segs_ok : ∀ k, ∀ s ∈ [sg0 (s0 k)], SegB prog f63 0 s
  | 0 => (Lc (sg_none (Lc (fun _ _ => rfl) L0)) L0)
  | k + 1 => (Lc (sg_ok (hE k) (segs_ok k) (Lc s0_ev L0)) L0)
theorem ok (k : Nat) : CtOK prog 63 (ct (f k)) := fn_ok func63 rfl (by decide) (hE k) (segs_ok k) (Lc ev L0)
end transomref37_values
namespace transomref37_scan
abbrev R : Type := ByteArray × Int
def e (r : R) : Res := ⟨.tup [(.one (.d .str r.1)), (.one (.d (.int .i64) r.2))], []⟩
abbrev T (δ : Type) : Type := D_api_Op → Option δ
abbrev A {δ : Type} (g : T δ) : Arm δ := ⟨[.s T_api_Op], [], fun x y => g x.1.1⟩
abbrev G : Type := T R
def ct (g : G) : Ct := mkCt 0 [] [A g] e
section
variable {β : Type} (g32 : transomref37_small.G) (g36 : transomref37_named.G) (g63 : transomref37_values.G)
noncomputable abbrev env : FEnv := mkEnv prog f61 [(32, transomref37_small.ct g32), (36, transomref37_named.ct g36), (63, transomref37_values.ct g63)] 0 [] []
def c (ret : R → Option β) (a0 : D_api_Op) : Option β := ((g36 (ByteArray.mk (List.toArray [(115 : UInt8), (99 : UInt8), (97 : UInt8), (110 : UInt8)])) [a0.2.1]).bind fun r0 => (bif (r0.2 != (0 : Int)) then (ret ((ByteArray.mk (List.toArray [])), r0.2)) else ((g32 a0.2.2.2.2.2.1).bind fun r1 => (bif (r1.2 != (0 : Int)) then (ret ((ByteArray.mk (List.toArray [])), r1.2)) else ((g63 a0.2.2.2.1).bind fun r2 => (bif (r2.2 != (0 : Int)) then (ret ((ByteArray.mk (List.toArray [])), r2.2)) else ((g63 a0.2.2.2.2.1).bind fun r3 => (bif ((decide (r0.1.size ≤ (4611686018427387903 : Nat))) && (decide (r1.1.size ≤ (4611686018427387903 : Nat)))) then (bif ((decide ((ByteArray.size (r0.1 ++ r1.1)) ≤ (4611686018427387903 : Nat))) && (decide (r2.1.size ≤ (4611686018427387903 : Nat)))) then (bif ((decide ((ByteArray.size ((r0.1 ++ r1.1) ++ r2.1)) ≤ (4611686018427387903 : Nat))) && true) then (bif ((decide ((ByteArray.size (((r0.1 ++ r1.1) ++ r2.1) ++ (ByteArray.mk (List.toArray [(32 : UInt8), (116 : UInt8), (111 : UInt8)])))) ≤ (4611686018427387903 : Nat))) && (decide (r3.1.size ≤ (4611686018427387903 : Nat)))) then (ret (((((r0.1 ++ r1.1) ++ r2.1) ++ (ByteArray.mk (List.toArray [(32 : UInt8), (116 : UInt8), (111 : UInt8)]))) ++ r3.1), r3.2)) else none) else none) else none) else none))))))))
variable {g32} {g36} {g63}
theorem ev : EvA (env g32 g36 g63) [] [0] e (A (c g32 g36 g63 some)) := fun x y => Eq.trans (b := (A (c g32 g36 g63 fun r => some (e r))).G x y) (by kernel_rfl) (by simp only [A, c, bif_bind, sum_bind, oa, os, on, ofs])
end
def f (k : Nat) (a0 : D_api_Op) : Option R := c (transomref37_small.f k) (transomref37_named.f k) (transomref37_values.f k) some a0
noncomputable abbrev E (k : Nat) : FEnv := env (transomref37_small.f k) (transomref37_named.f k) (transomref37_values.f k) 
theorem hE (k : Nat) : EnvOK (E k).toEnv := ctsOK (Lc (transomref37_small.ok k) (Lc (transomref37_named.ok k) (Lc (transomref37_values.ok k) L0)))
theorem ok (k : Nat) : CtOK prog 61 (ct (f k)) := fn_ok func61 rfl (by decide) (hE k) L0 (Lc ev L0)
end transomref37_scan
namespace transomref37_word
def e (r : ByteArray) : Res := ⟨.v (.one (.d .str r)), []⟩
abbrev T (δ : Type) : Type := Int → Option δ
abbrev A {δ : Type} (g : T δ) : Arm δ := ⟨[.d (.int .i64)], [], fun x y => g x.1⟩
abbrev G : Type := T ByteArray
def ct (g : G) : Ct := mkCt 0 [] [A g] e
section
variable {β : Type} 
noncomputable abbrev env : FEnv := mkEnv prog f62 [] 0 [] []
def c (ret : ByteArray → Option β) (a0 : Int) : Option β := (bif (a0 == (1 : Int)) then (ret ((ByteArray.mk (List.toArray [(103 : UInt8), (101 : UInt8), (116 : UInt8)])))) else (bif (a0 == (3 : Int)) then (ret ((ByteArray.mk (List.toArray [(105 : UInt8), (110 : UInt8), (115 : UInt8), (101 : UInt8), (114 : UInt8), (116 : UInt8)])))) else (bif (a0 == (4 : Int)) then (ret ((ByteArray.mk (List.toArray [(117 : UInt8), (112 : UInt8), (100 : UInt8), (97 : UInt8), (116 : UInt8), (101 : UInt8)])))) else (bif (a0 == (5 : Int)) then (ret ((ByteArray.mk (List.toArray [(100 : UInt8), (101 : UInt8), (108 : UInt8), (101 : UInt8), (116 : UInt8), (101 : UInt8)])))) else (bif (a0 == (7 : Int)) then (ret ((ByteArray.mk (List.toArray [(98 : UInt8), (101 : UInt8), (103 : UInt8), (105 : UInt8), (110 : UInt8)])))) else (bif (a0 == (8 : Int)) then (ret ((ByteArray.mk (List.toArray [(99 : UInt8), (111 : UInt8), (109 : UInt8), (109 : UInt8), (105 : UInt8), (116 : UInt8)])))) else (bif (a0 == (9 : Int)) then (ret ((ByteArray.mk (List.toArray [(97 : UInt8), (98 : UInt8), (111 : UInt8), (114 : UInt8), (116 : UInt8)])))) else (ret ((ByteArray.mk (List.toArray [])))))))))))
theorem ev : EvA (env) [] [0] e (A (c some)) := fun x y => Eq.trans (b := (A (c fun r => some (e r))).G x y) (by kernel_rfl) (by simp only [A, c, bif_bind, sum_bind, oa, os, on, ofs])
end
def f (k : Nat) (a0 : Int) : Option ByteArray := c  some a0
noncomputable abbrev E (k : Nat) : FEnv := env  
theorem hE (k : Nat) : EnvOK (E k).toEnv := ctsOK L0
theorem ok (k : Nat) : CtOK prog 62 (ct (f k)) := fn_ok func62 rfl (by decide) (hE k) L0 (Lc ev L0)
end transomref37_word
namespace transomref37_op
abbrev R : Type := ByteArray × Int
def e (r : R) : Res := ⟨.tup [(.one (.d .str r.1)), (.one (.d (.int .i64) r.2))], []⟩
abbrev T (δ : Type) : Type := D_api_Op → Option δ
abbrev A {δ : Type} (g : T δ) : Arm δ := ⟨[.s T_api_Op], [], fun x y => g x.1.1⟩
abbrev G : Type := T R
def ct (g : G) : Ct := mkCt 0 [] [A g] e
abbrev S0 (δ : Type) : Type := Bool → D_api_Op → Option δ
abbrev A_0 {δ : Type} (s : S0 δ) : Arm δ := ⟨[.k (.ptr 0 0), .d .bool], [.box [.g T_api_Op]], fun x y => s x.2.1 y.1.1⟩
abbrev S1 (δ : Type) : Type := Bool → D_api_Op → Option δ
abbrev A_1 {δ : Type} (s : S1 δ) : Arm δ := ⟨[.k (.ptr 0 0), .d .bool], [.box [.g T_api_Op]], fun x y => s x.2.1 y.1.1⟩
abbrev S2 (δ : Type) : Type := D_api_Op → Option δ
abbrev A_2 {δ : Type} (s : S2 δ) : Arm δ := ⟨[.k (.ptr 0 0)], [.box [.g T_api_Op]], fun x y => s y.1.1⟩
def sg0 (s : S0 R) : Seg := mkSg [1, 3, 1, 3, 1, 4, 0, 1] [] [1, 30] [A_0 s] e
def sg1 (s : S1 R) : Seg := mkSg [1, 3, 1, 3, 1, 3, 1, 4, 0, 1] [] [1, 42] [A_1 s] e
def sg2 (s : S2 R) : Seg := mkSg [1, 1] [] [1] [A_2 s] e
section
variable {β : Type} (g16 : transomref37_Change.G) (g36 : transomref37_named.G) (g61 : transomref37_scan.G) (g62 : transomref37_word.G) (g63 : transomref37_values.G) (s0 : S0 R) (s1 : S1 R) (s2 : S2 R)
noncomputable abbrev env : FEnv := mkEnv prog f33 [(16, transomref37_Change.ct g16), (36, transomref37_named.ct g36), (61, transomref37_scan.ct g61), (62, transomref37_word.ct g62), (63, transomref37_values.ct g63)] 0 [] [sg0 s0, sg1 s1, sg2 s2]
def c (ret : R → Option β) (a0 : D_api_Op) : Option β := (bif (a0.1 == (2 : Int)) then ((g61 a0).bind fun r0 => (ret (r0.1, r0.2))) else (bif (a0.1 == (6 : Int)) then ((g16 a0.2.2.2.2.2.2.1).bind fun r1 => (bif (true && (decide (r1.1.size ≤ (4611686018427387903 : Nat)))) then (ret (((ByteArray.mk (List.toArray [(99 : UInt8), (104 : UInt8), (97 : UInt8), (110 : UInt8), (103 : UInt8), (101 : UInt8), (32 : UInt8)])) ++ r1.1), r1.2)) else none)) else (bif (decide (a0.1 ≥ (7 : Int))) then ((s0 (decide (a0.1 ≤ (9 : Int))) a0).bind ret) else ((s0 false a0).bind ret))))
def s0c (ret : R → Option β) (x0 : Bool) (x1 : D_api_Op) : Option β := (bif x0 then ((g62 x1.1).bind fun r0 => (ret (r0, (0 : Int)))) else (bif (decide (x1.1 < (1 : Int))) then ((s1 true x1).bind ret) else ((s1 (decide (x1.1 > (9 : Int))) x1).bind ret)))
def s1c (ret : R → Option β) (x0 : Bool) (x1 : D_api_Op) : Option β := (bif x0 then (ret ((ByteArray.mk (List.toArray [])), (1 : Int))) else ((s2 x1).bind ret))
def s2c (ret : R → Option β) (x0 : D_api_Op) : Option β := ((g62 x0.1).bind fun r0 => ((g36 r0 [x0.2.1]).bind fun r1 => (bif (r1.2 != (0 : Int)) then (ret ((ByteArray.mk (List.toArray [])), r1.2)) else ((g63 x0.2.2.1).bind fun r2 => (bif ((decide (r1.1.size ≤ (4611686018427387903 : Nat))) && (decide (r2.1.size ≤ (4611686018427387903 : Nat)))) then (ret ((r1.1 ++ r2.1), r2.2)) else none)))))
variable {g16} {g36} {g61} {g62} {g63} {s0} {s1} {s2}
theorem ev : EvA (env g16 g36 g61 g62 g63 s0 s1 s2) [] [0] e (A (c g16 g61 s0 some)) := fun x y => Eq.trans (b := (A (c g16 g61 s0 fun r => some (e r))).G x y) (by kernel_rfl) (by simp only [A, c, bif_bind, sum_bind, oa, os, on, ofs])
theorem s0_ev : EvA (env g16 g36 g61 g62 g63 s0 s1 s2) [1, 3, 1, 3, 1, 4, 0, 1] [1, 30] e (A_0 (s0c g62 s1 some)) := fun x y => Eq.trans (b := (A_0 (s0c g62 s1 fun r => some (e r))).G x y) (by kernel_rfl) (by simp only [A_0, s0c, bif_bind, sum_bind, oa, os, on, ofs])
theorem s1_ev : EvA (env g16 g36 g61 g62 g63 s0 s1 s2) [1, 3, 1, 3, 1, 3, 1, 4, 0, 1] [1, 42] e (A_1 (s1c s2 some)) := fun x y => Eq.trans (b := (A_1 (s1c s2 fun r => some (e r))).G x y) (by kernel_rfl) (by simp only [A_1, s1c, bif_bind, sum_bind, oa, os, on, ofs])
theorem s2_ev : EvA (env g16 g36 g61 g62 g63 s0 s1 s2) [1, 1] [1] e (A_2 (s2c g36 g62 g63 some)) := fun x y => Eq.trans (b := (A_2 (s2c g36 g62 g63 fun r => some (e r))).G x y) (by kernel_rfl) (by simp only [A_2, s2c, bif_bind, sum_bind, oa, os, on, ofs])
end
mutual
def s0 : Nat → S0 R
  | 0, _, _ => none
  | k + 1, x0, x1 => s0c (transomref37_word.f k) (s1 k) some x0 x1
def s1 : Nat → S1 R
  | 0, _, _ => none
  | k + 1, x0, x1 => s1c (s2 k) some x0 x1
def s2 : Nat → S2 R
  | 0, _ => none
  | k + 1, x0 => s2c (transomref37_named.f k) (transomref37_word.f k) (transomref37_values.f k) some x0
end
def f (k : Nat) (a0 : D_api_Op) : Option R := c (transomref37_Change.f k) (transomref37_scan.f k) (s0 k) some a0
noncomputable abbrev E (k : Nat) : FEnv := env (transomref37_Change.f k) (transomref37_named.f k) (transomref37_scan.f k) (transomref37_word.f k) (transomref37_values.f k) (s0 k) (s1 k) (s2 k)
theorem hE (k : Nat) : EnvOK (E k).toEnv := ctsOK (Lc (transomref37_Change.ok k) (Lc (transomref37_named.ok k) (Lc (transomref37_scan.ok k) (Lc (transomref37_word.ok k) (Lc (transomref37_values.ok k) L0)))))
theorem segs_ok : ∀ k, ∀ s ∈ [sg0 (s0 k), sg1 (s1 k), sg2 (s2 k)], SegB prog f33 0 s
  | 0 => (Lc (sg_none (Lc (fun _ _ => rfl) L0)) (Lc (sg_none (Lc (fun _ _ => rfl) L0)) (Lc (sg_none (Lc (fun _ _ => rfl) L0)) L0)))
  | k + 1 => (Lc (sg_ok (hE k) (segs_ok k) (Lc s0_ev L0)) (Lc (sg_ok (hE k) (segs_ok k) (Lc s1_ev L0)) (Lc (sg_ok (hE k) (segs_ok k) (Lc s2_ev L0)) L0)))
theorem ok (k : Nat) : CtOK prog 33 (ct (f k)) := fn_ok func33 rfl (by decide) (hE k) (segs_ok k) (Lc ev L0)
end transomref37_op
namespace transomref37_Line
abbrev R : Type := ByteArray × Int
def e (r : R) : Res := ⟨.tup [(.one (.d .str r.1)), (.one (.d (.int .i64) r.2))], []⟩
abbrev T (δ : Type) : Type := D_api_Step → Option δ
abbrev A {δ : Type} (g : T δ) : Arm δ := ⟨[.s T_api_Step], [], fun x y => g x.1.1⟩
abbrev G : Type := T R
def ct (g : G) : Ct := mkCt 0 [] [A g] e
abbrev S0 (δ : Type) : Type := Bool → D_api_Step → Option δ
abbrev A_0 {δ : Type} (s : S0 δ) : Arm δ := ⟨[.k (.ptr 0 0), .d .bool], [.box [.g T_api_Step]], fun x y => s x.2.1 y.1.1⟩
abbrev S1 (δ : Type) : Type := D_api_Step → Option δ
abbrev A_1 {δ : Type} (s : S1 δ) : Arm δ := ⟨[.k (.ptr 0 0)], [.box [.g T_api_Step]], fun x y => s y.1.1⟩
def sg0 (s : S0 R) : Seg := mkSg [1, 3, 1, 3, 1, 3, 1, 3, 1, 4, 1, 0, 1] [] [1, 17] [A_0 s] e
def sg1 (s : S1 R) : Seg := mkSg [1, 1] [] [1] [A_1 s] e
section
variable {β : Type} (g32 : transomref37_small.G) (g33 : transomref37_op.G) (s0 : S0 R) (s1 : S1 R)
noncomputable abbrev env : FEnv := mkEnv prog f14 [(32, transomref37_small.ct g32), (33, transomref37_op.ct g33)] 0 [] [sg0 s0, sg1 s1]
def c (ret : R → Option β) (a0 : D_api_Step) : Option β := (bif (a0.1 == (3 : Int)) then (ret ((ByteArray.mk (List.toArray [(109 : UInt8), (105 : UInt8), (103 : UInt8), (114 : UInt8), (97 : UInt8), (116 : UInt8), (101 : UInt8)])), (0 : Int))) else (bif (a0.1 == (4 : Int)) then (ret ((ByteArray.mk (List.toArray [(116 : UInt8), (105 : UInt8), (99 : UInt8), (107 : UInt8)])), (0 : Int))) else (bif (a0.1 == (5 : Int)) then (ret ((ByteArray.mk (List.toArray [(99 : UInt8), (111 : UInt8), (108 : UInt8), (108 : UInt8), (101 : UInt8), (99 : UInt8), (116 : UInt8)])), (0 : Int))) else (bif (a0.1 == (6 : Int)) then (ret ((ByteArray.mk (List.toArray [(102 : UInt8), (114 : UInt8), (101 : UInt8), (101 : UInt8)])), (0 : Int))) else (bif (a0.1 == (1 : Int)) then ((s0 (a0.1 == (1 : Int)) a0).bind ret) else ((s0 (a0.1 == (2 : Int)) a0).bind ret))))))
def s0c (ret : R → Option β) (x0 : Bool) (x1 : D_api_Step) : Option β := (bif x0 then ((s1 x1).bind ret) else (ret ((ByteArray.mk (List.toArray [])), (1 : Int))))
def s1c (ret : R → Option β) (x0 : D_api_Step) : Option β := ((g32 x0.2.1).bind fun r0 => (bif (r0.2 != (0 : Int)) then (ret ((ByteArray.mk (List.toArray [])), r0.2)) else (bif (x0.1 == (2 : Int)) then (bif (true && (decide (r0.1.size ≤ (4611686018427387903 : Nat)))) then (ret (((ByteArray.mk (List.toArray [(114 : UInt8), (117 : UInt8), (110 : UInt8)])) ++ r0.1), (0 : Int))) else none) else ((g33 x0.2.2.1).bind fun r1 => (bif (r1.2 != (0 : Int)) then (ret ((ByteArray.mk (List.toArray [])), r1.2)) else (bif (true && (decide (r0.1.size ≤ (4611686018427387903 : Nat)))) then (bif ((decide ((ByteArray.size ((ByteArray.mk (List.toArray [(97 : UInt8), (115 : UInt8), (107 : UInt8)])) ++ r0.1)) ≤ (4611686018427387903 : Nat))) && true) then (bif ((decide ((ByteArray.size (((ByteArray.mk (List.toArray [(97 : UInt8), (115 : UInt8), (107 : UInt8)])) ++ r0.1) ++ (ByteArray.mk (List.toArray [(32 : UInt8)])))) ≤ (4611686018427387903 : Nat))) && (decide (r1.1.size ≤ (4611686018427387903 : Nat)))) then (ret (((((ByteArray.mk (List.toArray [(97 : UInt8), (115 : UInt8), (107 : UInt8)])) ++ r0.1) ++ (ByteArray.mk (List.toArray [(32 : UInt8)]))) ++ r1.1), (0 : Int))) else none) else none) else none))))))
variable {g32} {g33} {s0} {s1}
theorem ev : EvA (env g32 g33 s0 s1) [] [0] e (A (c s0 some)) := fun x y => Eq.trans (b := (A (c s0 fun r => some (e r))).G x y) (by kernel_rfl) (by simp only [A, c, bif_bind, sum_bind, oa, os, on, ofs])
theorem s0_ev : EvA (env g32 g33 s0 s1) [1, 3, 1, 3, 1, 3, 1, 3, 1, 4, 1, 0, 1] [1, 17] e (A_0 (s0c s1 some)) := fun x y => Eq.trans (b := (A_0 (s0c s1 fun r => some (e r))).G x y) (by kernel_rfl) (by simp only [A_0, s0c, bif_bind, sum_bind, oa, os, on, ofs])
theorem s1_ev : EvA (env g32 g33 s0 s1) [1, 1] [1] e (A_1 (s1c g32 g33 some)) := fun x y => Eq.trans (b := (A_1 (s1c g32 g33 fun r => some (e r))).G x y) (by kernel_rfl) (by simp only [A_1, s1c, bif_bind, sum_bind, oa, os, on, ofs])
end
mutual
def s0 : Nat → S0 R
  | 0, _, _ => none
  | k + 1, x0, x1 => s0c (s1 k) some x0 x1
def s1 : Nat → S1 R
  | 0, _ => none
  | k + 1, x0 => s1c (transomref37_small.f k) (transomref37_op.f k) some x0
end
def f (k : Nat) (a0 : D_api_Step) : Option R := c (s0 k) some a0
noncomputable abbrev E (k : Nat) : FEnv := env (transomref37_small.f k) (transomref37_op.f k) (s0 k) (s1 k)
theorem hE (k : Nat) : EnvOK (E k).toEnv := ctsOK (Lc (transomref37_small.ok k) (Lc (transomref37_op.ok k) L0))
theorem segs_ok : ∀ k, ∀ s ∈ [sg0 (s0 k), sg1 (s1 k)], SegB prog f14 0 s
  | 0 => (Lc (sg_none (Lc (fun _ _ => rfl) L0)) (Lc (sg_none (Lc (fun _ _ => rfl) L0)) L0))
  | k + 1 => (Lc (sg_ok (hE k) (segs_ok k) (Lc s0_ev L0)) (Lc (sg_ok (hE k) (segs_ok k) (Lc s1_ev L0)) L0))
theorem ok (k : Nat) : CtOK prog 14 (ct (f k)) := fn_ok func14 rfl (by decide) (hE k) (segs_ok k) (Lc ev L0)
end transomref37_Line
namespace story_Change
abbrev R : Type := ByteArray × Int
def e (r : R) : Res := ⟨.tup [(.one (.d .str r.1)), (.one (.d (.int .i64) r.2))], []⟩
abbrev T (δ : Type) : Type := D_api_Change → Option δ
abbrev A {δ : Type} (g : T δ) : Arm δ := ⟨[.s T_api_Change], [], fun x y => g x.1.1⟩
abbrev G : Type := T R
def ct (g : G) : Ct := mkCt 0 [] [A g] e
section
variable {β : Type} (g31_0 : story_writer_text.G0) (g31_1 : story_writer_text.G1) (g34_0 : story_writer_change.G0) (g34_1 : story_writer_change.G1)
noncomputable abbrev env : FEnv := mkEnv prog f15 [(31, story_writer_text.ct g31_0 g31_1), (34, story_writer_change.ct g34_0 g34_1)] 0 [] []
def c (ret : R → Option β) (a0 : D_api_Change) : Option β := ((g34_1 a0 (0 : Int)).bind fun r0 => (Sum.elim (fun r1 => ((g31_0 r1.1 r1.2).bind fun r2 => (Sum.elim (fun r3 => (ret (r3.1, r3.2.1))) (fun r4 => (ret (r4.1, r4.2.1))) r2))) (fun r5 => ((g31_1 r5).bind fun r6 => (Sum.elim (fun r7 => (ret (r7.1, r7.2.1))) (fun r8 => (ret (r8.1, r8.2.1))) r6))) r0))
variable {g31_0} {g31_1} {g34_0} {g34_1}
theorem ev : EvA (env g31_0 g31_1 g34_0 g34_1) [] [0] e (A (c g31_0 g31_1 g34_1 some)) := fun x y => Eq.trans (b := (A (c g31_0 g31_1 g34_1 fun r => some (e r))).G x y) (by kernel_rfl) (by simp only [A, c, bif_bind, sum_bind, oa, os, on, ofs])
end
def f (k : Nat) (a0 : D_api_Change) : Option R := c (story_writer_text.f0 k) (story_writer_text.f1 k) (story_writer_change.f1 k) some a0
noncomputable abbrev E (k : Nat) : FEnv := env (story_writer_text.f0 k) (story_writer_text.f1 k) (story_writer_change.f0 k) (story_writer_change.f1 k) 
theorem hE (k : Nat) : EnvOK (E k).toEnv := ctsOK (Lc (story_writer_text.ok k) (Lc (story_writer_change.ok k) L0))
theorem ok (k : Nat) : CtOK prog 15 (ct (f k)) := fn_ok func15 rfl (by decide) (hE k) L0 (Lc ev L0)
end story_Change
end Go.Proofs.YtimadphjdkjgaaaGreatDoor.Aev
