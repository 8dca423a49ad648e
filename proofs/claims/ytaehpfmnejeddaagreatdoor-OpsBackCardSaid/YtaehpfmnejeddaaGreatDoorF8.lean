import Derived.Test.YtaehpfmnejeddaaGreatDoorTys
import Derived.Test.YtaehpfmnejeddaaGreatDoorProg
import Derived.Laws.Externs
import Derived.Lib.Bytealg
import Derived.Test.YtaehpfmnejeddaaGreatDoorF6
import Derived.Test.YtaehpfmnejeddaaGreatDoorF7
/- By a program of this session (AEV): functions of the program as plain functions, and that the machine does what they say. -/
namespace Go.Proofs.YtaehpfmnejeddaaGreatDoor.Aev
set_option linter.unusedVariables false
set_option linter.unusedSimpArgs false
set_option maxRecDepth 100000
set_option maxHeartbeats 4000000
open Go Go.Proofs.Tryz
namespace transomref08_Unlike
def e (r : Bool) : Res := ⟨.v (.one (.d .bool r)), []⟩
abbrev T (δ : Type) : Type := (List ByteArray) → Option δ
abbrev A {δ : Type} (g : T δ) : Arm δ := ⟨[.d (.sl .str)], [], fun x y => g x.1⟩
abbrev G : Type := T Bool
def ct (g : G) : Ct := mkCt 0 [] [A g] e
abbrev S0 (δ : Type) : Type := (List ByteArray) → Int → Option δ
abbrev A_0 {δ : Type} (s : S0 δ) : Arm δ := ⟨[.d (.sl .str), .d (.int .i64)], [], fun x y => s x.1 x.2.1⟩
def sg0 (s : S0 Bool) : Seg := mkSg [4, 1, 0, 1] [] [0, 3] [A_0 s] e
section
variable {β : Type} (g120 : transomref08_Find.G) (s0 : S0 Bool)
noncomputable abbrev env : FEnv := mkEnv prog f89 [(120, transomref08_Find.ct g120)] 0 [] [sg0 s0]
def c (ret : Bool → Option β) (a0 : List ByteArray) : Option β := ((s0 a0 (0 : Int)).bind ret)
def s0c (ret : Bool → Option β) (x0 : List ByteArray) (x1 : Int) : Option β := (bif (decide (x1 < (x0.length : Int))) then (bif ((decide ((0 : Int) ≤ x1)) && (decide (x1 < (x0.length : Int)))) then ((g120 x0 (elem Ty.str x0 x1)).bind fun r0 => (bif (r0 != x1) then (ret (false)) else ((s0 x0 (IntKind.wrap .i64 (x1 + (1 : Int)))).bind ret))) else none) else (ret (true)))
variable {g120} {s0}
theorem ev : EvA (env g120 s0) [] [0] e (A (c s0 some)) := fun x y => Eq.trans (b := (A (c s0 fun r => some (e r))).G x y) (by kernel_rfl) (by simp only [A, c, bo, sum_bind, oa, os, on, ofs])
theorem s0_ev : EvA (env g120 s0) [4, 1, 0, 1] [0, 3] e (A_0 (s0c g120 s0 some)) := fun x y => Eq.trans (b := (A_0 (s0c g120 s0 fun r => some (e r))).G x y) (by kernel_rfl) (by simp only [A_0, s0c, bo, sum_bind, oa, os, on, ofs])
end
def s0 : Nat → S0 Bool
 | 0, _, _ => none
 | k + 1, x0, x1 => s0c (transomref08_Find.f k) (s0 k) some x0 x1
def f (k : Nat) (a0 : List ByteArray) : Option Bool := c (s0 k) some a0
noncomputable abbrev E (k : Nat) : FEnv := env (transomref08_Find.f k) (s0 k)
theorem hE (k : Nat) : EnvOK (E k).toEnv := ctsOK (Lc (transomref08_Find.ok k) L0)
theorem sk : ∀ k, ∀ s ∈ [sg0 (s0 k)], SegB prog f89 0 s
 | 0 => (Lc (sn (Lc (fun _ _ => rfl) L0)) L0)
 | k + 1 => (Lc (sg_ok (hE k) (sk k) (Lc s0_ev L0)) L0)
theorem ok (k : Nat) : CtOK prog 89 (ct (f k)) := fn_ok func89 rfl (by decide) (hE k) (sk k) (Lc ev L0)
end transomref08_Unlike
namespace transomref09_Names
def e (r : (List ByteArray)) : Res := ⟨.v (.one (.d (.sl .str) r)), []⟩
abbrev T (δ : Type) : Type := (List D_api_Col) → Option δ
abbrev A {δ : Type} (g : T δ) : Arm δ := ⟨[.d (.sl T_api_Col)], [], fun x y => g x.1⟩
abbrev G : Type := T (List ByteArray)
def ct (g : G) : Ct := mkCt 0 [] [A g] e
abbrev S0 (δ : Type) : Type := (List D_api_Col) → Int → (List ByteArray) → Option δ
abbrev A_0 {δ : Type} (s : S0 δ) : Arm δ := ⟨[.d (.sl T_api_Col), .k (.own 0), .d (.int .i64)], [.own .str false], fun x y => s x.1 x.2.2.1 y.1⟩
def sg0 (s : S0 (List ByteArray)) : Seg := mkSg [4, 1, 0, 1, 1] [.own 3 .str] [0, 3, 4] [A_0 s] e
section
variable {β : Type} (s0 : S0 (List ByteArray))
noncomputable abbrev env : FEnv := mkEnv prog f90 [] 0 [] [sg0 s0]
def c (ret : (List ByteArray) → Option β) (a0 : List D_api_Col) : Option β := ((s0 a0 (0 : Int) []).bind ret)
def s0c (ret : (List ByteArray) → Option β) (x0 : List D_api_Col) (x1 : Int) (x2 : List ByteArray) : Option β := (bif (decide (x1 < (x0.length : Int))) then (bif ((decide ((0 : Int) ≤ x1)) && (decide (x1 < (x0.length : Int)))) then (bif (decide (((x2.length + (1 : Nat)) * (16 : Nat)) ≤ (35184372088832 : Nat))) then ((s0 x0 (IntKind.wrap .i64 (x1 + (1 : Int))) (x2 ++ [(elem T_api_Col x0 x1).1])).bind ret) else none) else none) else (ret (x2)))
variable {s0}
theorem ev : EvA (env s0) [] [0] e (A (c s0 some)) := fun x y => Eq.trans (b := (A (c s0 fun r => some (e r))).G x y) (by kernel_rfl) (by simp only [A, c, bo, sum_bind, oa, os, on, ofs])
theorem s0_ev : EvA (env s0) [4, 1, 0, 1, 1] [0, 3, 4] e (A_0 (s0c s0 some)) := fun x y => Eq.trans (b := (A_0 (s0c s0 fun r => some (e r))).G x y) (by kernel_rfl) (by simp only [A_0, s0c, bo, sum_bind, oa, os, on, ofs])
end
def s0 : Nat → S0 (List ByteArray)
 | 0, _, _, _ => none
 | k + 1, x0, x1, x2 => s0c (s0 k) some x0 x1 x2
def f (k : Nat) (a0 : List D_api_Col) : Option (List ByteArray) := c (s0 k) some a0
noncomputable abbrev E (k : Nat) : FEnv := env  (s0 k)
theorem hE (k : Nat) : EnvOK (E k).toEnv := ctsOK L0
theorem sk : ∀ k, ∀ s ∈ [sg0 (s0 k)], SegB prog f90 0 s
 | 0 => (Lc (sn (Lc (fun _ _ => rfl) L0)) L0)
 | k + 1 => (Lc (sg_ok (hE k) (sk k) (Lc s0_ev L0)) L0)
theorem ok (k : Nat) : CtOK prog 90 (ct (f k)) := fn_ok func90 rfl (by decide) (hE k) (sk k) (Lc ev L0)
end transomref09_Names
namespace transomref09_Check
def e (r : Int) : Res := ⟨.v (.one (.d (.int .i64) r)), []⟩
abbrev T (δ : Type) : Type := ByteArray → Int → (List D_api_Col) → Option δ
abbrev A {δ : Type} (g : T δ) : Arm δ := ⟨[.s T_api_Table], [], fun x y => g x.1.1.1 x.1.1.2.1 x.1.1.2.2.1⟩
abbrev G : Type := T Int
def ct (g : G) : Ct := mkCt 0 [] [A g] e
abbrev S0 (δ : Type) : Type := Bool → ByteArray → Int → (List D_api_Col) → Option δ
abbrev A_0 {δ : Type} (s : S0 δ) : Arm δ := ⟨[.k (.ptr 0 0), .d .bool], [.box [.g T_api_Table]], fun x y => s x.2.1 y.1.1.1 y.1.1.2.1 y.1.1.2.2.1⟩
abbrev S1 (δ : Type) : Type := ByteArray → Int → (List D_api_Col) → Option δ
abbrev A_1 {δ : Type} (s : S1 δ) : Arm δ := ⟨[.k (.ptr 0 0)], [.box [.g T_api_Table]], fun x y => s y.1.1.1 y.1.1.2.1 y.1.1.2.2.1⟩
abbrev S2 (δ : Type) : Type := Bool → ByteArray → Int → (List D_api_Col) → Option δ
abbrev A_2 {δ : Type} (s : S2 δ) : Arm δ := ⟨[.k (.ptr 0 0), .d .bool], [.box [.g T_api_Table]], fun x y => s x.2.1 y.1.1.1 y.1.1.2.1 y.1.1.2.2.1⟩
abbrev S3 (δ : Type) : Type := ByteArray → Int → (List D_api_Col) → Option δ
abbrev A_3 {δ : Type} (s : S3 δ) : Arm δ := ⟨[.k (.ptr 0 0)], [.box [.g T_api_Table]], fun x y => s y.1.1.1 y.1.1.2.1 y.1.1.2.2.1⟩
abbrev S4 (δ : Type) : Type := Int → ByteArray → Int → (List D_api_Col) → Option δ
abbrev A_4 {δ : Type} (s : S4 δ) : Arm δ := ⟨[.k (.ptr 0 0), .d (.int .i64)], [.box [.g T_api_Table]], fun x y => s x.2.1 y.1.1.1 y.1.1.2.1 y.1.1.2.2.1⟩
abbrev S5 (δ : Type) : Type := Int → ByteArray → Int → (List D_api_Col) → Option δ
abbrev A_5 {δ : Type} (s : S5 δ) : Arm δ := ⟨[.k (.ptr 0 0), .d (.int .i64)], [.box [.g T_api_Table]], fun x y => s x.2.1 y.1.1.1 y.1.1.2.1 y.1.1.2.2.1⟩
def sg0 (s : S0 Int) : Seg := mkSg [1, 0, 1, 1] [] [1, 22] [A_0 s] e
def sg1 (s : S1 Int) : Seg := mkSg [1, 1, 1] [] [1] [A_1 s] e
def sg2 (s : S2 Int) : Seg := mkSg [1, 0, 1, 1, 1] [] [1, 38] [A_2 s] e
def sg3 (s : S3 Int) : Seg := mkSg [1, 1, 1, 1] [] [1] [A_3 s] e
def sg4 (s : S4 Int) : Seg := mkSg [4, 1, 0, 1, 1, 1, 1] [] [1, 4] [A_4 s] e
def sg5 (s : S5 Int) : Seg := mkSg [4, 1, 0, 1, 1, 1, 1, 1, 1] [] [1, 6] [A_5 s] e
section
variable {β : Type} (g87 : transomref08_Check.G) (g88 : transomref09_CheckCol.G) (g89 : transomref08_Unlike.G) (g90 : transomref09_Names.G) (s0 : S0 Int) (s1 : S1 Int) (s2 : S2 Int) (s3 : S3 Int) (s4 : S4 Int) (s5 : S5 Int)
noncomputable abbrev env : FEnv := mkEnv prog f64 [(87, transomref08_Check.ct g87), (88, transomref09_CheckCol.ct g88), (89, transomref08_Unlike.ct g89), (90, transomref09_Names.ct g90)] 0 [] [sg0 s0, sg1 s1, sg2 s2, sg3 s3, sg4 s4, sg5 s5]
def c (ret : Int → Option β) (a0 : ByteArray) (a1 : Int) (a2 : List D_api_Col) : Option β := ((g87 a0).bind fun r0 => (bif (r0 != (0 : Int)) then (ret (r0)) else (bif (decide ((a2.length : Int) < (1 : Int))) then ((s0 true a0 a1 a2).bind ret) else ((s0 (decide ((a2.length : Int) > (8 : Int))) a0 a1 a2).bind ret))))
def s0c (ret : Int → Option β) (x0 : Bool) (x1 : ByteArray) (x2 : Int) (x3 : List D_api_Col) : Option β := (bif x0 then (ret ((2 : Int))) else ((s1 x1 x2 x3).bind ret))
def s1c (ret : Int → Option β) (x0 : ByteArray) (x1 : Int) (x2 : List D_api_Col) : Option β := (bif (decide (x1 < (1 : Int))) then ((s2 true x0 x1 x2).bind ret) else (bif (decide (x1 > (3 : Int))) then ((s2 true x0 x1 x2).bind ret) else ((s2 (decide (x1 > (x2.length : Int))) x0 x1 x2).bind ret)))
def s2c (ret : Int → Option β) (x0 : Bool) (x1 : ByteArray) (x2 : Int) (x3 : List D_api_Col) : Option β := (bif x0 then (ret ((1 : Int))) else ((s3 x1 x2 x3).bind ret))
def s3c (ret : Int → Option β) (x0 : ByteArray) (x1 : Int) (x2 : List D_api_Col) : Option β := ((s4 (0 : Int) x0 x1 x2).bind ret)
def s4c (ret : Int → Option β) (x0 : Int) (x1 : ByteArray) (x2 : Int) (x3 : List D_api_Col) : Option β := (bif (decide (x0 < (x3.length : Int))) then (bif ((decide ((0 : Int) ≤ x0)) && (decide (x0 < (x3.length : Int)))) then ((g88 (elem T_api_Col x3 x0).1 (elem T_api_Col x3 x0).2.1 (elem T_api_Col x3 x0).2.2.1 (elem T_api_Col x3 x0).2.2.2.1.1 (elem T_api_Col x3 x0).2.2.2.1.2.1 (elem T_api_Col x3 x0).2.2.2.1.2.2.1 (elem T_api_Col x3 x0).2.2.2.1.2.2.2.1).bind fun r0 => (bif (r0 != (0 : Int)) then (ret (r0)) else ((s4 (IntKind.wrap .i64 (x0 + (1 : Int))) x1 x2 x3).bind ret))) else none) else ((g90 x3).bind fun r1 => ((g89 r1).bind fun r2 => (bif (!r2) then (ret ((12 : Int))) else ((s5 (0 : Int) x1 x2 x3).bind ret)))))
def s5c (ret : Int → Option β) (x0 : Int) (x1 : ByteArray) (x2 : Int) (x3 : List D_api_Col) : Option β := (bif (decide (x0 < x2)) then (bif ((decide ((0 : Int) ≤ x0)) && (decide (x0 < (x3.length : Int)))) then (bif (elem T_api_Col x3 x0).2.2.1 then (ret ((11 : Int))) else ((s5 (IntKind.wrap .i64 (x0 + (1 : Int))) x1 x2 x3).bind ret)) else none) else (ret ((0 : Int))))
variable {g87} {g88} {g89} {g90} {s0} {s1} {s2} {s3} {s4} {s5}
theorem ev : EvA (env g87 g88 g89 g90 s0 s1 s2 s3 s4 s5) [] [0] e (A (c g87 s0 some)) := fun x y => Eq.trans (b := (A (c g87 s0 fun r => some (e r))).G x y) (by kernel_rfl) (by simp only [A, c, bo, sum_bind, oa, os, on, ofs])
theorem s0_ev : EvA (env g87 g88 g89 g90 s0 s1 s2 s3 s4 s5) [1, 0, 1, 1] [1, 22] e (A_0 (s0c s1 some)) := fun x y => Eq.trans (b := (A_0 (s0c s1 fun r => some (e r))).G x y) (by kernel_rfl) (by simp only [A_0, s0c, bo, sum_bind, oa, os, on, ofs])
theorem s1_ev : EvA (env g87 g88 g89 g90 s0 s1 s2 s3 s4 s5) [1, 1, 1] [1] e (A_1 (s1c s2 some)) := fun x y => Eq.trans (b := (A_1 (s1c s2 fun r => some (e r))).G x y) (by kernel_rfl) (by simp only [A_1, s1c, bo, sum_bind, oa, os, on, ofs])
theorem s2_ev : EvA (env g87 g88 g89 g90 s0 s1 s2 s3 s4 s5) [1, 0, 1, 1, 1] [1, 38] e (A_2 (s2c s3 some)) := fun x y => Eq.trans (b := (A_2 (s2c s3 fun r => some (e r))).G x y) (by kernel_rfl) (by simp only [A_2, s2c, bo, sum_bind, oa, os, on, ofs])
theorem s3_ev : EvA (env g87 g88 g89 g90 s0 s1 s2 s3 s4 s5) [1, 1, 1, 1] [1] e (A_3 (s3c s4 some)) := fun x y => Eq.trans (b := (A_3 (s3c s4 fun r => some (e r))).G x y) (by kernel_rfl) (by simp only [A_3, s3c, bo, sum_bind, oa, os, on, ofs])
theorem s4_ev : EvA (env g87 g88 g89 g90 s0 s1 s2 s3 s4 s5) [4, 1, 0, 1, 1, 1, 1] [1, 4] e (A_4 (s4c g88 g89 g90 s4 s5 some)) := fun x y => Eq.trans (b := (A_4 (s4c g88 g89 g90 s4 s5 fun r => some (e r))).G x y) (by kernel_rfl) (by simp only [A_4, s4c, bo, sum_bind, oa, os, on, ofs])
theorem s5_ev : EvA (env g87 g88 g89 g90 s0 s1 s2 s3 s4 s5) [4, 1, 0, 1, 1, 1, 1, 1, 1] [1, 6] e (A_5 (s5c s5 some)) := fun x y => Eq.trans (b := (A_5 (s5c s5 fun r => some (e r))).G x y) (by kernel_rfl) (by simp only [A_5, s5c, bo, sum_bind, oa, os, on, ofs])
end
mutual
def s0 : Nat → S0 Int
 | 0, _, _, _, _ => none
 | k + 1, x0, x1, x2, x3 => s0c (s1 k) some x0 x1 x2 x3
def s1 : Nat → S1 Int
 | 0, _, _, _ => none
 | k + 1, x0, x1, x2 => s1c (s2 k) some x0 x1 x2
def s2 : Nat → S2 Int
 | 0, _, _, _, _ => none
 | k + 1, x0, x1, x2, x3 => s2c (s3 k) some x0 x1 x2 x3
def s3 : Nat → S3 Int
 | 0, _, _, _ => none
 | k + 1, x0, x1, x2 => s3c (s4 k) some x0 x1 x2
def s4 : Nat → S4 Int
 | 0, _, _, _, _ => none
 | k + 1, x0, x1, x2, x3 => s4c (transomref09_CheckCol.f k) (transomref08_Unlike.f k) (transomref09_Names.f k) (s4 k) (s5 k) some x0 x1 x2 x3
def s5 : Nat → S5 Int
 | 0, _, _, _, _ => none
 | k + 1, x0, x1, x2, x3 => s5c (s5 k) some x0 x1 x2 x3
end
def f (k : Nat) (a0 : ByteArray) (a1 : Int) (a2 : List D_api_Col) : Option Int := c (transomref08_Check.f k) (s0 k) some a0 a1 a2
noncomputable abbrev E (k : Nat) : FEnv := env (transomref08_Check.f k) (transomref09_CheckCol.f k) (transomref08_Unlike.f k) (transomref09_Names.f k) (s0 k) (s1 k) (s2 k) (s3 k) (s4 k) (s5 k)
theorem hE (k : Nat) : EnvOK (E k).toEnv := ctsOK (Lc (transomref08_Check.ok k) (Lc (transomref09_CheckCol.ok k) (Lc (transomref08_Unlike.ok k) (Lc (transomref09_Names.ok k) L0))))
theorem sk : ∀ k, ∀ s ∈ [sg0 (s0 k), sg1 (s1 k), sg2 (s2 k), sg3 (s3 k), sg4 (s4 k), sg5 (s5 k)], SegB prog f64 0 s
 | 0 => (Lc (sn (Lc (fun _ _ => rfl) L0)) (Lc (sn (Lc (fun _ _ => rfl) L0)) (Lc (sn (Lc (fun _ _ => rfl) L0)) (Lc (sn (Lc (fun _ _ => rfl) L0)) (Lc (sn (Lc (fun _ _ => rfl) L0)) (Lc (sn (Lc (fun _ _ => rfl) L0)) L0))))))
 | k + 1 => (Lc (sg_ok (hE k) (sk k) (Lc s0_ev L0)) (Lc (sg_ok (hE k) (sk k) (Lc s1_ev L0)) (Lc (sg_ok (hE k) (sk k) (Lc s2_ev L0)) (Lc (sg_ok (hE k) (sk k) (Lc s3_ev L0)) (Lc (sg_ok (hE k) (sk k) (Lc s4_ev L0)) (Lc (sg_ok (hE k) (sk k) (Lc s5_ev L0)) L0))))))
theorem ok (k : Nat) : CtOK prog 64 (ct (f k)) := fn_ok func64 rfl (by decide) (hE k) (sk k) (Lc ev L0)
end transomref09_Check
namespace transomref05_Eight
def e (r : ByteArray) : Res := ⟨.v (.one (.d .str r)), []⟩
abbrev T (δ : Type) : Type := Int → Option δ
abbrev A {δ : Type} (g : T δ) : Arm δ := ⟨[.d (.int .u64)], [], fun x y => g x.1⟩
abbrev G : Type := T ByteArray
def ct (g : G) : Ct := mkCt 0 [] [A g] e
abbrev S0 (δ : Type) : Type := Int → Int → (List Int) → Option δ
abbrev A_0 {δ : Type} (s : S0 δ) : Arm δ := ⟨[.d (.int .u64), .k (.own 0), .d (.int .i64)], [.own (.int .u8) false], fun x y => s x.1 x.2.2.1 y.1⟩
def sg0 (s : S0 ByteArray) : Seg := mkSg [4, 1, 0, 1, 1] [.own 3 (.int .u8)] [0, 3, 4] [A_0 s] e
section
variable {β : Type} (s0 : S0 ByteArray)
noncomputable abbrev env : FEnv := mkEnv prog f91 [] 0 [] [sg0 s0]
def c (ret : ByteArray → Option β) (a0 : Int) : Option β := ((s0 a0 (0 : Int) []).bind ret)
def s0c (ret : ByteArray → Option β) (x0 : Int) (x1 : Int) (x2 : List Int) : Option β := (bif (decide (x1 < (8 : Int))) then (bif (decide ((0 : Int) ≤ (IntKind.wrap .u64 (IntKind.wrap .i64 ((56 : Int) - (IntKind.wrap .i64 ((8 : Int) * x1))))))) then (bif (decide (((x2.length + (1 : Nat)) * (1 : Nat)) ≤ (35184372088832 : Nat))) then ((s0 x0 (IntKind.wrap .i64 (x1 + (1 : Int))) (x2 ++ [(IntKind.wrap .u8 (Int.fdiv x0 ((2 : Int) ^ (Min.min (Int.toNat (IntKind.wrap .u64 (IntKind.wrap .i64 ((56 : Int) - (IntKind.wrap .i64 ((8 : Int) * x1)))))) (64 : Nat)))))])).bind ret) else none) else none) else (ret ((ByteArray.mk (List.toArray (List.map (fun n => (UInt8.ofNat (Int.toNat n))) x2))))))
variable {s0}
theorem ev : EvA (env s0) [] [0] e (A (c s0 some)) := fun x y => Eq.trans (b := (A (c s0 fun r => some (e r))).G x y) (by kernel_rfl) (by simp only [A, c, bo, sum_bind, oa, os, on, ofs])
theorem s0_ev : EvA (env s0) [4, 1, 0, 1, 1] [0, 3, 4] e (A_0 (s0c s0 some)) := fun x y => Eq.trans (b := (A_0 (s0c s0 fun r => some (e r))).G x y) (by kernel_rfl) (by simp only [A_0, s0c, bo, sum_bind, oa, os, on, ofs])
end
def s0 : Nat → S0 ByteArray
 | 0, _, _, _ => none
 | k + 1, x0, x1, x2 => s0c (s0 k) some x0 x1 x2
def f (k : Nat) (a0 : Int) : Option ByteArray := c (s0 k) some a0
noncomputable abbrev E (k : Nat) : FEnv := env  (s0 k)
theorem hE (k : Nat) : EnvOK (E k).toEnv := ctsOK L0
theorem sk : ∀ k, ∀ s ∈ [sg0 (s0 k)], SegB prog f91 0 s
 | 0 => (Lc (sn (Lc (fun _ _ => rfl) L0)) L0)
 | k + 1 => (Lc (sg_ok (hE k) (sk k) (Lc s0_ev L0)) L0)
theorem ok (k : Nat) : CtOK prog 91 (ct (f k)) := fn_ok func91 rfl (by decide) (hE k) (sk k) (Lc ev L0)
end transomref05_Eight
namespace transomref02_Key
def e (r : Int) : Res := ⟨.v (.one (.d (.int .u64) r)), []⟩
abbrev T (δ : Type) : Type := Int → Option δ
abbrev A {δ : Type} (g : T δ) : Arm δ := ⟨[.d (.int .u64)], [], fun x y => g x.1⟩
abbrev G : Type := T Int
def ct (g : G) : Ct := mkCt 0 [] [A g] e
section
variable {β : Type} (g104 : transomref02_Canon.G)
noncomputable abbrev env : FEnv := mkEnv prog f92 [(104, transomref02_Canon.ct g104)] 0 [] []
def c (ret : Int → Option β) (a0 : Int) : Option β := ((g104 a0).bind fun r0 => (bif ((Int.fdiv r0 (9223372036854775808 : Int)) == (0 : Int)) then (ret ((IntKind.wrap .u64 ((BitVec.toNat ((BitVec.ofInt (64 : Nat) r0) ||| (BitVec.ofInt (64 : Nat) (9223372036854775808 : Int)))) : Int)))) else (ret ((IntKind.wrap .u64 ((BitVec.toNat ((BitVec.ofInt (64 : Nat) (18446744073709551615 : Int)) ^^^ (BitVec.ofInt (64 : Nat) r0))) : Int))))))
variable {g104}
theorem ev : EvA (env g104) [] [0] e (A (c g104 some)) := fun x y => Eq.trans (b := (A (c g104 fun r => some (e r))).G x y) (by kernel_rfl) (by simp only [A, c, bo, sum_bind, oa, os, on, ofs])
end
def f (k : Nat) (a0 : Int) : Option Int := c (transomref02_Canon.f k) some a0
noncomputable abbrev E (k : Nat) : FEnv := env (transomref02_Canon.f k) 
theorem hE (k : Nat) : EnvOK (E k).toEnv := ctsOK (Lc (transomref02_Canon.ok k) L0)
theorem ok (k : Nat) : CtOK prog 92 (ct (f k)) := fn_ok func92 rfl (by decide) (hE k) L0 (Lc ev L0)
end transomref02_Key
namespace transomref05_escaped
def e (r : ByteArray) : Res := ⟨.v (.one (.d .str r)), []⟩
abbrev T (δ : Type) : Type := ByteArray → Option δ
abbrev A {δ : Type} (g : T δ) : Arm δ := ⟨[.d .str], [], fun x y => g x.1⟩
abbrev G : Type := T ByteArray
def ct (g : G) : Ct := mkCt 0 [] [A g] e
abbrev S0 (δ : Type) : Type := ByteArray → Int → (List Int) → Option δ
abbrev A_0 {δ : Type} (s : S0 δ) : Arm δ := ⟨[.d .str, .k (.own 0), .d (.int .i64)], [.own (.int .u8) false], fun x y => s x.1 x.2.2.1 y.1⟩
abbrev S1 (δ : Type) : Type := ByteArray → Int → (List Int) → Option δ
abbrev A_1 {δ : Type} (s : S1 δ) : Arm δ := ⟨[.d .str, .k (.own 0), .d (.int .i64)], [.own (.int .u8) false], fun x y => s x.1 x.2.2.1 y.1⟩
def sg0 (s : S0 ByteArray) : Seg := mkSg [4, 1, 0, 1, 1] [.own 3 (.int .u8)] [0, 3, 4] [A_0 s] e
def sg1 (s : S1 ByteArray) : Seg := mkSg [1, 1, 5, 4, 1, 0, 1, 1] [] [0, 3, 4] [A_1 s] e
section
variable {β : Type} (s0 : S0 ByteArray) (s1 : S1 ByteArray)
noncomputable abbrev env : FEnv := mkEnv prog f93 [] 0 [] [sg0 s0, sg1 s1]
def c (ret : ByteArray → Option β) (a0 : ByteArray) : Option β := ((s0 a0 (0 : Int) []).bind ret)
def s0c (ret : ByteArray → Option β) (x0 : ByteArray) (x1 : Int) (x2 : List Int) : Option β := (bif (decide (x1 < (x0.size : Int))) then (bif ((decide ((0 : Int) ≤ x1)) && (decide (x1 < (x0.size : Int)))) then (bif (decide (((x2.length + (1 : Nat)) * (1 : Nat)) ≤ (35184372088832 : Nat))) then (bif ((decide ((0 : Int) ≤ x1)) && (decide (x1 < (x0.size : Int)))) then (bif ((bt x0 x1) == (0 : Int)) then (bif (decide ((((List.length (x2 ++ [(bt x0 x1)])) + (1 : Nat)) * (1 : Nat)) ≤ (35184372088832 : Nat))) then ((s1 x0 x1 ((x2 ++ [(bt x0 x1)]) ++ [(255 : Int)])).bind ret) else none) else ((s1 x0 x1 (x2 ++ [(bt x0 x1)])).bind ret)) else none) else none) else none) else (bif (decide (((x2.length + (2 : Nat)) * (1 : Nat)) ≤ (35184372088832 : Nat))) then (ret ((ByteArray.mk (List.toArray (List.map (fun n => (UInt8.ofNat (Int.toNat n))) (x2 ++ [(0 : Int), (0 : Int)])))))) else none))
def s1c (ret : ByteArray → Option β) (x0 : ByteArray) (x1 : Int) (x2 : List Int) : Option β := ((s0 x0 (IntKind.wrap .i64 (x1 + (1 : Int))) x2).bind ret)
variable {s0} {s1}
theorem ev : EvA (env s0 s1) [] [0] e (A (c s0 some)) := fun x y => Eq.trans (b := (A (c s0 fun r => some (e r))).G x y) (by kernel_rfl) (by simp only [A, c, bo, sum_bind, oa, os, on, ofs])
theorem s0_ev : EvA (env s0 s1) [4, 1, 0, 1, 1] [0, 3, 4] e (A_0 (s0c s1 some)) := fun x y => Eq.trans (b := (A_0 (s0c s1 fun r => some (e r))).G x y) (by kernel_rfl) (by simp only [A_0, s0c, bo, sum_bind, oa, os, on, ofs])
theorem s1_ev : EvA (env s0 s1) [1, 1, 5, 4, 1, 0, 1, 1] [0, 3, 4] e (A_1 (s1c s0 some)) := fun x y => Eq.trans (b := (A_1 (s1c s0 fun r => some (e r))).G x y) (by kernel_rfl) (by simp only [A_1, s1c, bo, sum_bind, oa, os, on, ofs])
end
mutual
def s0 : Nat → S0 ByteArray
 | 0, _, _, _ => none
 | k + 1, x0, x1, x2 => s0c (s1 k) some x0 x1 x2
def s1 : Nat → S1 ByteArray
 | 0, _, _, _ => none
 | k + 1, x0, x1, x2 => s1c (s0 k) some x0 x1 x2
end
def f (k : Nat) (a0 : ByteArray) : Option ByteArray := c (s0 k) some a0
noncomputable abbrev E (k : Nat) : FEnv := env  (s0 k) (s1 k)
theorem hE (k : Nat) : EnvOK (E k).toEnv := ctsOK L0
theorem sk : ∀ k, ∀ s ∈ [sg0 (s0 k), sg1 (s1 k)], SegB prog f93 0 s
 | 0 => (Lc (sn (Lc (fun _ _ => rfl) L0)) (Lc (sn (Lc (fun _ _ => rfl) L0)) L0))
 | k + 1 => (Lc (sg_ok (hE k) (sk k) (Lc s0_ev L0)) (Lc (sg_ok (hE k) (sk k) (Lc s1_ev L0)) L0))
theorem ok (k : Nat) : CtOK prog 93 (ct (f k)) := fn_ok func93 rfl (by decide) (hE k) (sk k) (Lc ev L0)
end transomref05_escaped
namespace transomref05_Put
abbrev R : Type := ByteArray × Int
def e (r : R) : Res := ⟨.tup [(.one (.d .str r.1)), (.one (.d (.int .i64) r.2))], []⟩
abbrev T (δ : Type) : Type := Int → Int → Int → ByteArray → Option δ
abbrev A {δ : Type} (g : T δ) : Arm δ := ⟨[.s T_api_Value], [], fun x y => g x.1.1.1 x.1.1.2.1 x.1.1.2.2.1 x.1.1.2.2.2.1⟩
abbrev G : Type := T R
def ct (g : G) : Ct := mkCt 0 [] [A g] e
section
variable {β : Type} (g76 : transomref04_Check.G) (g91 : transomref05_Eight.G) (g92 : transomref02_Key.G) (g93 : transomref05_escaped.G)
noncomputable abbrev env : FEnv := mkEnv prog f65 [(76, transomref04_Check.ct g76), (91, transomref05_Eight.ct g91), (92, transomref02_Key.ct g92), (93, transomref05_escaped.ct g93)] 0 [] []
def c (ret : R → Option β) (a0 : Int) (a1 : Int) (a2 : Int) (a3 : ByteArray) : Option β := ((g76 a0 a1 a2 a3).bind fun r0 => (bif (r0 != (0 : Int)) then (ret ((ByteArray.mk (List.toArray [])), r0)) else (bif (a0 == (1 : Int)) then (ret (((ByteArray.mk (List.toArray (List.map (fun n => (UInt8.ofNat (Int.toNat n))) [(IntKind.wrap .u8 a0)]))) ++ (ByteArray.mk (List.toArray (List.map (fun n => (UInt8.ofNat (Int.toNat n))) [(IntKind.wrap .u8 a1)])))), (0 : Int))) else (bif (a0 == (2 : Int)) then ((g91 (IntKind.wrap .u64 ((BitVec.toNat ((BitVec.ofInt (64 : Nat) (IntKind.wrap .u64 a1)) ^^^ (BitVec.ofInt (64 : Nat) (9223372036854775808 : Int)))) : Int))).bind fun r1 => (bif (true && (decide (r1.size ≤ (4611686018427387903 : Nat)))) then (ret (((ByteArray.mk (List.toArray (List.map (fun n => (UInt8.ofNat (Int.toNat n))) [(IntKind.wrap .u8 a0)]))) ++ r1), (0 : Int))) else none)) else (bif (a0 == (3 : Int)) then ((g92 a2).bind fun r2 => ((g91 r2).bind fun r3 => (bif (true && (decide (r3.size ≤ (4611686018427387903 : Nat)))) then (ret (((ByteArray.mk (List.toArray (List.map (fun n => (UInt8.ofNat (Int.toNat n))) [(IntKind.wrap .u8 a0)]))) ++ r3), (0 : Int))) else none))) else (bif (a0 == (4 : Int)) then (bif (a0 == (4 : Int)) then ((g93 a3).bind fun r4 => (bif (true && (decide (r4.size ≤ (4611686018427387903 : Nat)))) then (ret (((ByteArray.mk (List.toArray (List.map (fun n => (UInt8.ofNat (Int.toNat n))) [(IntKind.wrap .u8 a0)]))) ++ r4), (0 : Int))) else none)) else (ret ((ByteArray.mk (List.toArray (List.map (fun n => (UInt8.ofNat (Int.toNat n))) [(IntKind.wrap .u8 a0)]))), (0 : Int)))) else (bif (a0 == (5 : Int)) then ((g93 a3).bind fun r5 => (bif (true && (decide (r5.size ≤ (4611686018427387903 : Nat)))) then (ret (((ByteArray.mk (List.toArray (List.map (fun n => (UInt8.ofNat (Int.toNat n))) [(IntKind.wrap .u8 a0)]))) ++ r5), (0 : Int))) else none)) else (ret ((ByteArray.mk (List.toArray (List.map (fun n => (UInt8.ofNat (Int.toNat n))) [(IntKind.wrap .u8 a0)]))), (0 : Int))))))))))
variable {g76} {g91} {g92} {g93}
theorem ev : EvA (env g76 g91 g92 g93) [] [0] e (A (c g76 g91 g92 g93 some)) := fun x y => Eq.trans (b := (A (c g76 g91 g92 g93 fun r => some (e r))).G x y) (by kernel_rfl) (by simp only [A, c, bo, sum_bind, oa, os, on, ofs])
end
def f (k : Nat) (a0 : Int) (a1 : Int) (a2 : Int) (a3 : ByteArray) : Option R := c (transomref04_Check.f k) (transomref05_Eight.f k) (transomref02_Key.f k) (transomref05_escaped.f k) some a0 a1 a2 a3
noncomputable abbrev E (k : Nat) : FEnv := env (transomref04_Check.f k) (transomref05_Eight.f k) (transomref02_Key.f k) (transomref05_escaped.f k) 
theorem hE (k : Nat) : EnvOK (E k).toEnv := ctsOK (Lc (transomref04_Check.ok k) (Lc (transomref05_Eight.ok k) (Lc (transomref02_Key.ok k) (Lc (transomref05_escaped.ok k) L0))))
theorem ok (k : Nat) : CtOK prog 65 (ct (f k)) := fn_ok func65 rfl (by decide) (hE k) L0 (Lc ev L0)
end transomref05_Put
namespace transomref09_Put
abbrev R : Type := ByteArray × Int
def e (r : R) : Res := ⟨.tup [(.one (.d .str r.1)), (.one (.d (.int .i64) r.2))], []⟩
abbrev T (δ : Type) : Type := ByteArray → Int → (List D_api_Col) → Option δ
abbrev A {δ : Type} (g : T δ) : Arm δ := ⟨[.s T_api_Table], [], fun x y => g x.1.1.1 x.1.1.2.1 x.1.1.2.2.1⟩
abbrev G : Type := T R
def ct (g : G) : Ct := mkCt 0 [] [A g] e
abbrev S0 (δ : Type) : Type := ByteArray → Int → ByteArray → Int → (List D_api_Col) → Option δ
abbrev A_0 {δ : Type} (s : S0 δ) : Arm δ := ⟨[.k (.ptr 0 0), .d .str, .d (.int .i64)], [.box [.g T_api_Table]], fun x y => s x.2.1 x.2.2.1 y.1.1.1 y.1.1.2.1 y.1.1.2.2.1⟩
abbrev S1 (δ : Type) : Type := ByteArray → Int → Int → ByteArray → Int → (List D_api_Col) → ByteArray → Int → Bool → Int → Int → Int → ByteArray → Option δ
abbrev A_1 {δ : Type} (s : S1 δ) : Arm δ := ⟨[.k (.ptr 0 0), .d .str, .d (.int .i64), .k (.ptr 1 0), .d (.int .u8)], [.box [.g T_api_Table], .box [.g T_api_Col]], fun x y => s x.2.1 x.2.2.1 x.2.2.2.2.1 y.1.1.1 y.1.1.2.1 y.1.1.2.2.1 y.2.1.1.1 y.2.1.1.2.1 y.2.1.1.2.2.1 y.2.1.1.2.2.2.1.1 y.2.1.1.2.2.2.1.2.1 y.2.1.1.2.2.2.1.2.2.1 y.2.1.1.2.2.2.1.2.2.2.1⟩
abbrev S2 (δ : Type) : Type := ByteArray → Int → ByteArray → Int → (List D_api_Col) → Option δ
abbrev A_2 {δ : Type} (s : S2 δ) : Arm δ := ⟨[.k (.ptr 0 0), .d .str, .d (.int .i64)], [.box [.g T_api_Table]], fun x y => s x.2.1 x.2.2.1 y.1.1.1 y.1.1.2.1 y.1.1.2.2.1⟩
def sg0 (s : S0 R) : Seg := mkSg [4, 1, 0, 1, 1, 1] [] [1, 5, 6] [A_0 s] e
def sg1 (s : S1 R) : Seg := mkSg [1, 1, 1, 4, 0, 1, 5, 4, 1, 0, 1, 1, 1] [] [1, 5, 6, 7, 8] [A_1 s] e
def sg2 (s : S2 R) : Seg := mkSg [1, 1, 5, 4, 1, 0, 1, 1, 1] [] [1, 5, 6] [A_2 s] e
section
variable {β : Type} (g37 : transomref03_Uint.G) (g38 : transomref03_Text.G) (g64 : transomref09_Check.G) (g65 : transomref05_Put.G) (s0 : S0 R) (s1 : S1 R) (s2 : S2 R)
noncomputable abbrev env : FEnv := mkEnv prog f36 [(37, transomref03_Uint.ct g37), (38, transomref03_Text.ct g38), (64, transomref09_Check.ct g64), (65, transomref05_Put.ct g65)] 0 [] [sg0 s0, sg1 s1, sg2 s2]
def c (ret : R → Option β) (a0 : ByteArray) (a1 : Int) (a2 : List D_api_Col) : Option β := ((g64 a0 a1 a2).bind fun r0 => (bif (r0 != (0 : Int)) then (ret ((ByteArray.mk (List.toArray [])), r0)) else ((g38 a0).bind fun r1 => ((g37 (IntKind.wrap .u64 a1)).bind fun r2 => (bif ((decide (r1.size ≤ (4611686018427387903 : Nat))) && (decide (r2.size ≤ (4611686018427387903 : Nat)))) then ((g37 (IntKind.wrap .u64 (a2.length : Int))).bind fun r3 => (bif ((decide ((ByteArray.size (r1 ++ r2)) ≤ (4611686018427387903 : Nat))) && (decide (r3.size ≤ (4611686018427387903 : Nat)))) then ((s0 ((r1 ++ r2) ++ r3) (0 : Int) a0 a1 a2).bind ret) else none)) else none)))))
def s0c (ret : R → Option β) (x0 : ByteArray) (x1 : Int) (x2 : ByteArray) (x3 : Int) (x4 : List D_api_Col) : Option β := (bif (decide (x1 < (x4.length : Int))) then (bif ((decide ((0 : Int) ≤ x1)) && (decide (x1 < (x4.length : Int)))) then (bif (elem T_api_Col x4 x1).2.2.1 then ((s1 x0 x1 (1 : Int) x2 x3 x4 (elem T_api_Col x4 x1).1 (elem T_api_Col x4 x1).2.1 (elem T_api_Col x4 x1).2.2.1 (elem T_api_Col x4 x1).2.2.2.1.1 (elem T_api_Col x4 x1).2.2.2.1.2.1 (elem T_api_Col x4 x1).2.2.2.1.2.2.1 (elem T_api_Col x4 x1).2.2.2.1.2.2.2.1).bind ret) else ((s1 x0 x1 (0 : Int) x2 x3 x4 (elem T_api_Col x4 x1).1 (elem T_api_Col x4 x1).2.1 (elem T_api_Col x4 x1).2.2.1 (elem T_api_Col x4 x1).2.2.2.1.1 (elem T_api_Col x4 x1).2.2.2.1.2.1 (elem T_api_Col x4 x1).2.2.2.1.2.2.1 (elem T_api_Col x4 x1).2.2.2.1.2.2.2.1).bind ret)) else none) else (ret (x0, (0 : Int))))
def s1c (ret : R → Option β) (x0 : ByteArray) (x1 : Int) (x2 : Int) (x3 : ByteArray) (x4 : Int) (x5 : List D_api_Col) (x6 : ByteArray) (x7 : Int) (x8 : Bool) (x9 : Int) (x10 : Int) (x11 : Int) (x12 : ByteArray) : Option β := ((g65 x9 x10 x11 x12).bind fun r0 => ((g38 x6).bind fun r1 => (bif ((decide (x0.size ≤ (4611686018427387903 : Nat))) && (decide (r1.size ≤ (4611686018427387903 : Nat)))) then ((g37 (IntKind.wrap .u64 x7)).bind fun r2 => (bif ((decide ((ByteArray.size (x0 ++ r1)) ≤ (4611686018427387903 : Nat))) && (decide (r2.size ≤ (4611686018427387903 : Nat)))) then (bif ((decide ((ByteArray.size ((x0 ++ r1) ++ r2)) ≤ (4611686018427387903 : Nat))) && true) then (bif ((decide ((ByteArray.size (((x0 ++ r1) ++ r2) ++ (ByteArray.mk (List.toArray (List.map (fun n => (UInt8.ofNat (Int.toNat n))) [x2]))))) ≤ (4611686018427387903 : Nat))) && (decide (r0.1.size ≤ (4611686018427387903 : Nat)))) then ((s2 ((((x0 ++ r1) ++ r2) ++ (ByteArray.mk (List.toArray (List.map (fun n => (UInt8.ofNat (Int.toNat n))) [x2])))) ++ r0.1) x1 x3 x4 x5).bind ret) else none) else none) else none)) else none)))
def s2c (ret : R → Option β) (x0 : ByteArray) (x1 : Int) (x2 : ByteArray) (x3 : Int) (x4 : List D_api_Col) : Option β := ((s0 x0 (IntKind.wrap .i64 (x1 + (1 : Int))) x2 x3 x4).bind ret)
variable {g37} {g38} {g64} {g65} {s0} {s1} {s2}
theorem ev : EvA (env g37 g38 g64 g65 s0 s1 s2) [] [0] e (A (c g37 g38 g64 s0 some)) := fun x y => Eq.trans (b := (A (c g37 g38 g64 s0 fun r => some (e r))).G x y) (by kernel_rfl) (by simp only [A, c, bo, sum_bind, oa, os, on, ofs])
theorem s0_ev : EvA (env g37 g38 g64 g65 s0 s1 s2) [4, 1, 0, 1, 1, 1] [1, 5, 6] e (A_0 (s0c s1 some)) := fun x y => Eq.trans (b := (A_0 (s0c s1 fun r => some (e r))).G x y) (by kernel_rfl) (by simp only [A_0, s0c, bo, sum_bind, oa, os, on, ofs])
theorem s1_ev : EvA (env g37 g38 g64 g65 s0 s1 s2) [1, 1, 1, 4, 0, 1, 5, 4, 1, 0, 1, 1, 1] [1, 5, 6, 7, 8] e (A_1 (s1c g37 g38 g65 s2 some)) := fun x y => Eq.trans (b := (A_1 (s1c g37 g38 g65 s2 fun r => some (e r))).G x y) (by kernel_rfl) (by simp only [A_1, s1c, bo, sum_bind, oa, os, on, ofs])
theorem s2_ev : EvA (env g37 g38 g64 g65 s0 s1 s2) [1, 1, 5, 4, 1, 0, 1, 1, 1] [1, 5, 6] e (A_2 (s2c s0 some)) := fun x y => Eq.trans (b := (A_2 (s2c s0 fun r => some (e r))).G x y) (by kernel_rfl) (by simp only [A_2, s2c, bo, sum_bind, oa, os, on, ofs])
end
mutual
def s0 : Nat → S0 R
 | 0, _, _, _, _, _ => none
 | k + 1, x0, x1, x2, x3, x4 => s0c (s1 k) some x0 x1 x2 x3 x4
def s1 : Nat → S1 R
 | 0, _, _, _, _, _, _, _, _, _, _, _, _, _ => none
 | k + 1, x0, x1, x2, x3, x4, x5, x6, x7, x8, x9, x10, x11, x12 => s1c (transomref03_Uint.f k) (transomref03_Text.f k) (transomref05_Put.f k) (s2 k) some x0 x1 x2 x3 x4 x5 x6 x7 x8 x9 x10 x11 x12
def s2 : Nat → S2 R
 | 0, _, _, _, _, _ => none
 | k + 1, x0, x1, x2, x3, x4 => s2c (s0 k) some x0 x1 x2 x3 x4
end
def f (k : Nat) (a0 : ByteArray) (a1 : Int) (a2 : List D_api_Col) : Option R := c (transomref03_Uint.f k) (transomref03_Text.f k) (transomref09_Check.f k) (s0 k) some a0 a1 a2
noncomputable abbrev E (k : Nat) : FEnv := env (transomref03_Uint.f k) (transomref03_Text.f k) (transomref09_Check.f k) (transomref05_Put.f k) (s0 k) (s1 k) (s2 k)
theorem hE (k : Nat) : EnvOK (E k).toEnv := ctsOK (Lc (transomref03_Uint.ok k) (Lc (transomref03_Text.ok k) (Lc (transomref09_Check.ok k) (Lc (transomref05_Put.ok k) L0))))
theorem sk : ∀ k, ∀ s ∈ [sg0 (s0 k), sg1 (s1 k), sg2 (s2 k)], SegB prog f36 0 s
 | 0 => (Lc (sn (Lc (fun _ _ => rfl) L0)) (Lc (sn (Lc (fun _ _ => rfl) L0)) (Lc (sn (Lc (fun _ _ => rfl) L0)) L0)))
 | k + 1 => (Lc (sg_ok (hE k) (sk k) (Lc s0_ev L0)) (Lc (sg_ok (hE k) (sk k) (Lc s1_ev L0)) (Lc (sg_ok (hE k) (sk k) (Lc s2_ev L0)) L0)))
theorem ok (k : Nat) : CtOK prog 36 (ct (f k)) := fn_ok func36 rfl (by decide) (hE k) (sk k) (Lc ev L0)
end transomref09_Put
end Go.Proofs.YtaehpfmnejeddaaGreatDoor.Aev
