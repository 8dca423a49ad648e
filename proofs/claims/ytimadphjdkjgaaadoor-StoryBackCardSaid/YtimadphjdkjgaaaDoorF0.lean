import Derived.Test.YtimadphjdkjgaaaDoorTys
import Derived.Test.YtimadphjdkjgaaaDoorProg
import Derived.Laws.Externs
import Derived.Lib.Bytealg
/- By a program of this session (AEV): functions of the program as plain functions, and that the machine does what they say. -/
namespace Go.Proofs.YtimadphjdkjgaaaDoor.Aev
set_option linter.unusedVariables false
set_option linter.unusedSimpArgs false
set_option maxRecDepth 100000
set_option maxHeartbeats 4000000
open Go Go.Proofs.Tryd
namespace transomlaw08_Few
def e (r : Int) : Res := ⟨.v (.one (.d (.int .i64) r)), []⟩
abbrev T (δ : Type) : Type := (List ByteArray) → Option δ
abbrev A {δ : Type} (g : T δ) : Arm δ := ⟨[.d (.sl .str)], [], fun x y => g x.1⟩
abbrev G : Type := T Int
def ct (g : G) : Ct := mkCt 0 [] [A g] e
abbrev S0 (δ : Type) : Type := (List ByteArray) → Int → Option δ
abbrev A_0 {δ : Type} (s : S0 δ) : Arm δ := ⟨[.d (.sl .str), .d (.int .i64)], [], fun x y => s x.1 x.2.1⟩
def sg0 (s : S0 Int) : Seg := mkSg [4, 1, 0, 1, 1] [] [0, 3] [A_0 s] e
section
variable {β : Type} (s0 : S0 Int)
noncomputable abbrev env : FEnv := mkEnv prog f12 [] 0 [] [sg0 s0]
def c (ret : Int → Option β) (a0 : List ByteArray) : Option β := (bif (decide ((a0.length : Int) > (60 : Int))) then (ret ((0 : Int))) else ((s0 a0 (0 : Int)).bind ret))
def s0c (ret : Int → Option β) (x0 : List ByteArray) (x1 : Int) : Option β := (bif (decide (x1 < (x0.length : Int))) then (bif ((decide ((0 : Int) ≤ x1)) && (decide (x1 < (x0.length : Int)))) then (bif (decide (((ByteArray.size (elem Ty.str x0 x1)) : Int) > (500 : Int))) then (ret ((0 : Int))) else ((s0 x0 (IntKind.wrap .i64 (x1 + (1 : Int)))).bind ret)) else none) else (ret ((1 : Int))))
variable {s0}
theorem ev : EvA (env s0) [] [0] e (A (c s0 some)) := fun x y => Eq.trans (b := (A (c s0 fun r => some (e r))).G x y) (by kernel_rfl) (by simp only [A, c, bo, so, oa, os, on, ofs])
theorem s0_ev : EvA (env s0) [4, 1, 0, 1, 1] [0, 3] e (A_0 (s0c s0 some)) := fun x y => Eq.trans (b := (A_0 (s0c s0 fun r => some (e r))).G x y) (by kernel_rfl) (by simp only [A_0, s0c, bo, so, oa, os, on, ofs])
end
def s0 : Nat → S0 Int
 | 0, _, _ => none
 | k + 1, x0, x1 => s0c (s0 k) some x0 x1
def f (k : Nat) (a0 : List ByteArray) : Option Int := c (s0 k) some a0
noncomputable abbrev E (k : Nat) : FEnv := env  (s0 k)
theorem hE (k : Nat) : EnvOK (E k).toEnv := ctsOK L0
theorem sk : ∀ k, ∀ s ∈ [sg0 (s0 k)], SegB prog f12 0 s
 | 0 => (Lc (sn (Lc (fun _ _ => rfl) L0)) L0)
 | k + 1 => (Lc (sg_ok (hE k) (sk k) (Lc s0_ev L0)) L0)
theorem ok (k : Nat) : CtOK prog 12 (ct (f k)) := fn_ok func12 rfl (by decide) (hE k) (sk k) (Lc ev L0)
end transomlaw08_Few
namespace transomlaw04_Few
def e (r : Int) : Res := ⟨.v (.one (.d (.int .i64) r)), []⟩
abbrev T (δ : Type) : Type := Int → Int → Int → ByteArray → Option δ
abbrev A {δ : Type} (g : T δ) : Arm δ := ⟨[.s T_api_Value], [], fun x y => g x.1.1.1 x.1.1.2.1 x.1.1.2.2.1 x.1.1.2.2.2.1⟩
abbrev G : Type := T Int
def ct (g : G) : Ct := mkCt 0 [] [A g] e
section
variable {β : Type} 
noncomputable abbrev env : FEnv := mkEnv prog f14 [] 0 [] []
def c (ret : Int → Option β) (a0 a1 a2 : Int) (a3 : ByteArray) : Option β := (bif (decide ((a3.size : Int) > (2000 : Int))) then (ret ((0 : Int))) else (ret ((1 : Int))))
theorem ev : EvA (env) [] [0] e (A (c some)) := fun x y => Eq.trans (b := (A (c fun r => some (e r))).G x y) (by kernel_rfl) (by simp only [A, c, bo, so, oa, os, on, ofs])
end
def f (k : Nat) (a0 a1 a2 : Int) (a3 : ByteArray) : Option Int := c  some a0 a1 a2 a3
noncomputable abbrev E (k : Nat) : FEnv := env  
theorem hE (k : Nat) : EnvOK (E k).toEnv := ctsOK L0
theorem ok (k : Nat) : CtOK prog 14 (ct (f k)) := fn_ok func14 rfl (by decide) (hE k) L0 (Lc ev L0)
end transomlaw04_Few
namespace transomlaw09_Few
def e (r : Int) : Res := ⟨.v (.one (.d (.int .i64) r)), []⟩
abbrev T (δ : Type) : Type := ByteArray → Int → (List D_api_Col) → Option δ
abbrev A {δ : Type} (g : T δ) : Arm δ := ⟨[.s T_api_Table], [], fun x y => g x.1.1.1 x.1.1.2.1 x.1.1.2.2.1⟩
abbrev G : Type := T Int
def ct (g : G) : Ct := mkCt 0 [] [A g] e
abbrev S0 (δ : Type) : Type := Bool → ByteArray → Int → (List D_api_Col) → Option δ
abbrev A_0 {δ : Type} (s : S0 δ) : Arm δ := ⟨[.k (.ptr 0 0), .d .bool], [.box [.g T_api_Table]], fun x y => s x.2.1 y.1.1.1 y.1.1.2.1 y.1.1.2.2.1⟩
abbrev S1 (δ : Type) : Type := ByteArray → Int → (List D_api_Col) → Option δ
abbrev A_1 {δ : Type} (s : S1 δ) : Arm δ := ⟨[.k (.ptr 0 0)], [.box [.g T_api_Table]], fun x y => s y.1.1.1 y.1.1.2.1 y.1.1.2.2.1⟩
abbrev S2 (δ : Type) : Type := Int → ByteArray → Int → (List D_api_Col) → Option δ
abbrev A_2 {δ : Type} (s : S2 δ) : Arm δ := ⟨[.k (.ptr 0 0), .d (.int .i64)], [.box [.g T_api_Table]], fun x y => s x.2.1 y.1.1.1 y.1.1.2.1 y.1.1.2.2.1⟩
abbrev S3 (δ : Type) : Type := Int → Bool → ByteArray → Int → (List D_api_Col) → Option δ
abbrev A_3 {δ : Type} (s : S3 δ) : Arm δ := ⟨[.k (.ptr 0 0), .d (.int .i64), .d .bool], [.box [.g T_api_Table]], fun x y => s x.2.1 x.2.2.1 y.1.1.1 y.1.1.2.1 y.1.1.2.2.1⟩
abbrev S4 (δ : Type) : Type := Int → ByteArray → Int → (List D_api_Col) → Option δ
abbrev A_4 {δ : Type} (s : S4 δ) : Arm δ := ⟨[.k (.ptr 0 0), .d (.int .i64)], [.box [.g T_api_Table]], fun x y => s x.2.1 y.1.1.1 y.1.1.2.1 y.1.1.2.2.1⟩
def sg0 (s : S0 Int) : Seg := mkSg [1, 0, 1] [] [1, 13] [A_0 s] e
def sg1 (s : S1 Int) : Seg := mkSg [1, 1] [] [1] [A_1 s] e
def sg2 (s : S2 Int) : Seg := mkSg [4, 1, 0, 1, 1] [] [1, 3] [A_2 s] e
def sg3 (s : S3 Int) : Seg := mkSg [1, 4, 0, 1, 5, 4, 1, 0, 1, 1] [] [1, 3, 38] [A_3 s] e
def sg4 (s : S4 Int) : Seg := mkSg [1, 1, 5, 4, 1, 0, 1, 1] [] [1, 3] [A_4 s] e
section
variable {β : Type} (g14 : transomlaw04_Few.G) (s0 : S0 Int) (s1 : S1 Int) (s2 : S2 Int) (s3 : S3 Int) (s4 : S4 Int)
noncomputable abbrev env : FEnv := mkEnv prog f13 [(14, transomlaw04_Few.ct g14)] 0 [] [sg0 s0, sg1 s1, sg2 s2, sg3 s3, sg4 s4]
def c (ret : Int → Option β) (a0 : ByteArray) (a1 : Int) (a2 : List D_api_Col) : Option β := (bif (decide ((a2.length : Int) > (20 : Int))) then ((s0 true a0 a1 a2).bind ret) else ((s0 (decide ((a0.size : Int) > (500 : Int))) a0 a1 a2).bind ret))
def s0c (ret : Int → Option β) (x0 : Bool) (x1 : ByteArray) (x2 : Int) (x3 : List D_api_Col) : Option β := (bif x0 then (ret ((0 : Int))) else ((s1 x1 x2 x3).bind ret))
def s1c (ret : Int → Option β) (x0 : ByteArray) (x1 : Int) (x2 : List D_api_Col) : Option β := ((s2 (0 : Int) x0 x1 x2).bind ret)
def s2c (ret : Int → Option β) (x0 : Int) (x1 : ByteArray) (x2 : Int) (x3 : List D_api_Col) : Option β := (bif (decide (x0 < (x3.length : Int))) then (bif ((decide ((0 : Int) ≤ x0)) && (decide (x0 < (x3.length : Int)))) then (bif (decide (((ByteArray.size (elem T_api_Col x3 x0).1) : Int) > (500 : Int))) then ((s3 x0 true x1 x2 x3).bind ret) else (bif ((decide ((0 : Int) ≤ x0)) && (decide (x0 < (x3.length : Int)))) then ((g14 (elem T_api_Col x3 x0).2.2.2.1.1 (elem T_api_Col x3 x0).2.2.2.1.2.1 (elem T_api_Col x3 x0).2.2.2.1.2.2.1 (elem T_api_Col x3 x0).2.2.2.1.2.2.2.1).bind fun r0 => ((s3 x0 (r0 == (0 : Int)) x1 x2 x3).bind ret)) else none)) else none) else (ret ((1 : Int))))
def s3c (ret : Int → Option β) (x0 : Int) (x1 : Bool) (x2 : ByteArray) (x3 : Int) (x4 : List D_api_Col) : Option β := (bif x1 then (ret ((0 : Int))) else ((s4 x0 x2 x3 x4).bind ret))
def s4c (ret : Int → Option β) (x0 : Int) (x1 : ByteArray) (x2 : Int) (x3 : List D_api_Col) : Option β := ((s2 (IntKind.wrap .i64 (x0 + (1 : Int))) x1 x2 x3).bind ret)
variable {g14} {s0} {s1} {s2} {s3} {s4}
theorem ev : EvA (env g14 s0 s1 s2 s3 s4) [] [0] e (A (c s0 some)) := fun x y => Eq.trans (b := (A (c s0 fun r => some (e r))).G x y) (by kernel_rfl) (by simp only [A, c, bo, so, oa, os, on, ofs])
theorem s0_ev : EvA (env g14 s0 s1 s2 s3 s4) [1, 0, 1] [1, 13] e (A_0 (s0c s1 some)) := fun x y => Eq.trans (b := (A_0 (s0c s1 fun r => some (e r))).G x y) (by kernel_rfl) (by simp only [A_0, s0c, bo, so, oa, os, on, ofs])
theorem s1_ev : EvA (env g14 s0 s1 s2 s3 s4) [1, 1] [1] e (A_1 (s1c s2 some)) := fun x y => Eq.trans (b := (A_1 (s1c s2 fun r => some (e r))).G x y) (by kernel_rfl) (by simp only [A_1, s1c, bo, so, oa, os, on, ofs])
theorem s2_ev : EvA (env g14 s0 s1 s2 s3 s4) [4, 1, 0, 1, 1] [1, 3] e (A_2 (s2c g14 s3 some)) := fun x y => Eq.trans (b := (A_2 (s2c g14 s3 fun r => some (e r))).G x y) (by kernel_rfl) (by simp only [A_2, s2c, bo, so, oa, os, on, ofs])
theorem s3_ev : EvA (env g14 s0 s1 s2 s3 s4) [1, 4, 0, 1, 5, 4, 1, 0, 1, 1] [1, 3, 38] e (A_3 (s3c s4 some)) := fun x y => Eq.trans (b := (A_3 (s3c s4 fun r => some (e r))).G x y) (by kernel_rfl) (by simp only [A_3, s3c, bo, so, oa, os, on, ofs])
theorem s4_ev : EvA (env g14 s0 s1 s2 s3 s4) [1, 1, 5, 4, 1, 0, 1, 1] [1, 3] e (A_4 (s4c s2 some)) := fun x y => Eq.trans (b := (A_4 (s4c s2 fun r => some (e r))).G x y) (by kernel_rfl) (by simp only [A_4, s4c, bo, so, oa, os, on, ofs])
end
mutual
def s0 : Nat → S0 Int
 | 0, _, _, _, _ => none
 | k + 1, x0, x1, x2, x3 => s0c (s1 k) some x0 x1 x2 x3
def s1 : Nat → S1 Int
 | 0, _, _, _ => none
 | k + 1, x0, x1, x2 => s1c (s2 k) some x0 x1 x2
def s2 : Nat → S2 Int
 | 0, _, _, _, _ => none
 | k + 1, x0, x1, x2, x3 => s2c (transomlaw04_Few.f k) (s3 k) some x0 x1 x2 x3
def s3 : Nat → S3 Int
 | 0, _, _, _, _, _ => none
 | k + 1, x0, x1, x2, x3, x4 => s3c (s4 k) some x0 x1 x2 x3 x4
def s4 : Nat → S4 Int
 | 0, _, _, _, _ => none
 | k + 1, x0, x1, x2, x3 => s4c (s2 k) some x0 x1 x2 x3
end
def f (k : Nat) (a0 : ByteArray) (a1 : Int) (a2 : List D_api_Col) : Option Int := c (s0 k) some a0 a1 a2
noncomputable abbrev E (k : Nat) : FEnv := env (transomlaw04_Few.f k) (s0 k) (s1 k) (s2 k) (s3 k) (s4 k)
theorem hE (k : Nat) : EnvOK (E k).toEnv := ctsOK (Lc (transomlaw04_Few.ok k) L0)
theorem sk : ∀ k, ∀ s ∈ [sg0 (s0 k), sg1 (s1 k), sg2 (s2 k), sg3 (s3 k), sg4 (s4 k)], SegB prog f13 0 s
 | 0 => (Lc (sn (Lc (fun _ _ => rfl) L0)) (Lc (sn (Lc (fun _ _ => rfl) L0)) (Lc (sn (Lc (fun _ _ => rfl) L0)) (Lc (sn (Lc (fun _ _ => rfl) L0)) (Lc (sn (Lc (fun _ _ => rfl) L0)) L0)))))
 | k + 1 => (Lc (sg_ok (hE k) (sk k) (Lc s0_ev L0)) (Lc (sg_ok (hE k) (sk k) (Lc s1_ev L0)) (Lc (sg_ok (hE k) (sk k) (Lc s2_ev L0)) (Lc (sg_ok (hE k) (sk k) (Lc s3_ev L0)) (Lc (sg_ok (hE k) (sk k) (Lc s4_ev L0)) L0)))))
theorem ok (k : Nat) : CtOK prog 13 (ct (f k)) := fn_ok func13 rfl (by decide) (hE k) (sk k) (Lc ev L0)
end transomlaw09_Few
namespace transomlaw10_Few
def e (r : Int) : Res := ⟨.v (.one (.d (.int .i64) r)), []⟩
abbrev T (δ : Type) : Type := D_api_Change → Option δ
abbrev A {δ : Type} (g : T δ) : Arm δ := ⟨[.s T_api_Change], [], fun x y => g x.1.1⟩
abbrev G : Type := T Int
def ct (g : G) : Ct := mkCt 0 [] [A g] e
section
variable {β : Type} (g12 : transomlaw08_Few.G) (g13 : transomlaw09_Few.G) (g14 : transomlaw04_Few.G)
noncomputable abbrev env : FEnv := mkEnv prog f6 [(12, transomlaw08_Few.ct g12), (13, transomlaw09_Few.ct g13), (14, transomlaw04_Few.ct g14)] 0 [] []
def c (ret : Int → Option β) (a0 : D_api_Change) : Option β := ((g12 a0.2.2.2.2.2.2.2.1).bind fun r0 => (bif (r0 == (0 : Int)) then (ret ((0 : Int))) else ((g12 [a0.2.1, a0.2.2.1, a0.2.2.2.1, a0.2.2.2.2.1, a0.2.2.2.2.2.1, a0.2.2.2.2.2.2.2.2.1.1]).bind fun r1 => (bif (r1 == (0 : Int)) then (ret ((0 : Int))) else ((g13 a0.2.2.2.2.2.2.2.2.2.1.1 a0.2.2.2.2.2.2.2.2.2.1.2.1 a0.2.2.2.2.2.2.2.2.2.1.2.2.1).bind fun r2 => (bif (r2 == (0 : Int)) then (ret ((0 : Int))) else ((g14 a0.2.2.2.2.2.2.2.2.1.2.2.2.1.1 a0.2.2.2.2.2.2.2.2.1.2.2.2.1.2.1 a0.2.2.2.2.2.2.2.2.1.2.2.2.1.2.2.1 a0.2.2.2.2.2.2.2.2.1.2.2.2.1.2.2.2.1).bind fun r3 => (bif (r3 == (0 : Int)) then (ret ((0 : Int))) else (ret ((1 : Int)))))))))))
variable {g12} {g13} {g14}
theorem ev : EvA (env g12 g13 g14) [] [0] e (A (c g12 g13 g14 some)) := fun x y => Eq.trans (b := (A (c g12 g13 g14 fun r => some (e r))).G x y) (by kernel_rfl) (by simp only [A, c, bo, so, oa, os, on, ofs])
end
def f (k : Nat) (a0 : D_api_Change) : Option Int := c (transomlaw08_Few.f k) (transomlaw09_Few.f k) (transomlaw04_Few.f k) some a0
noncomputable abbrev E (k : Nat) : FEnv := env (transomlaw08_Few.f k) (transomlaw09_Few.f k) (transomlaw04_Few.f k) 
theorem hE (k : Nat) : EnvOK (E k).toEnv := ctsOK (Lc (transomlaw08_Few.ok k) (Lc (transomlaw09_Few.ok k) (Lc (transomlaw04_Few.ok k) L0)))
theorem ok (k : Nat) : CtOK prog 6 (ct (f k)) := fn_ok func6 rfl (by decide) (hE k) L0 (Lc ev L0)
end transomlaw10_Few
namespace transomlaw05_Few
def e (r : Int) : Res := ⟨.v (.one (.d (.int .i64) r)), []⟩
abbrev T (δ : Type) : Type := (List D_api_Value) → Option δ
abbrev A {δ : Type} (g : T δ) : Arm δ := ⟨[.d (.sl T_api_Value)], [], fun x y => g x.1⟩
abbrev G : Type := T Int
def ct (g : G) : Ct := mkCt 0 [] [A g] e
abbrev S0 (δ : Type) : Type := (List D_api_Value) → Int → Option δ
abbrev A_0 {δ : Type} (s : S0 δ) : Arm δ := ⟨[.d (.sl T_api_Value), .d (.int .i64)], [], fun x y => s x.1 x.2.1⟩
def sg0 (s : S0 Int) : Seg := mkSg [4, 1, 0, 1, 1] [] [0, 3] [A_0 s] e
section
variable {β : Type} (g14 : transomlaw04_Few.G) (s0 : S0 Int)
noncomputable abbrev env : FEnv := mkEnv prog f11 [(14, transomlaw04_Few.ct g14)] 0 [] [sg0 s0]
def c (ret : Int → Option β) (a0 : List D_api_Value) : Option β := (bif (decide ((a0.length : Int) > (30 : Int))) then (ret ((0 : Int))) else ((s0 a0 (0 : Int)).bind ret))
def s0c (ret : Int → Option β) (x0 : List D_api_Value) (x1 : Int) : Option β := (bif (decide (x1 < (x0.length : Int))) then (bif ((decide ((0 : Int) ≤ x1)) && (decide (x1 < (x0.length : Int)))) then ((g14 (elem T_api_Value x0 x1).1 (elem T_api_Value x0 x1).2.1 (elem T_api_Value x0 x1).2.2.1 (elem T_api_Value x0 x1).2.2.2.1).bind fun r0 => (bif (r0 == (0 : Int)) then (ret ((0 : Int))) else ((s0 x0 (IntKind.wrap .i64 (x1 + (1 : Int)))).bind ret))) else none) else (ret ((1 : Int))))
variable {g14} {s0}
theorem ev : EvA (env g14 s0) [] [0] e (A (c s0 some)) := fun x y => Eq.trans (b := (A (c s0 fun r => some (e r))).G x y) (by kernel_rfl) (by simp only [A, c, bo, so, oa, os, on, ofs])
theorem s0_ev : EvA (env g14 s0) [4, 1, 0, 1, 1] [0, 3] e (A_0 (s0c g14 s0 some)) := fun x y => Eq.trans (b := (A_0 (s0c g14 s0 fun r => some (e r))).G x y) (by kernel_rfl) (by simp only [A_0, s0c, bo, so, oa, os, on, ofs])
end
def s0 : Nat → S0 Int
 | 0, _, _ => none
 | k + 1, x0, x1 => s0c (transomlaw04_Few.f k) (s0 k) some x0 x1
def f (k : Nat) (a0 : List D_api_Value) : Option Int := c (s0 k) some a0
noncomputable abbrev E (k : Nat) : FEnv := env (transomlaw04_Few.f k) (s0 k)
theorem hE (k : Nat) : EnvOK (E k).toEnv := ctsOK (Lc (transomlaw04_Few.ok k) L0)
theorem sk : ∀ k, ∀ s ∈ [sg0 (s0 k)], SegB prog f11 0 s
 | 0 => (Lc (sn (Lc (fun _ _ => rfl) L0)) L0)
 | k + 1 => (Lc (sg_ok (hE k) (sk k) (Lc s0_ev L0)) L0)
theorem ok (k : Nat) : CtOK prog 11 (ct (f k)) := fn_ok func11 rfl (by decide) (hE k) (sk k) (Lc ev L0)
end transomlaw05_Few
namespace transomlaw13_FewOp
def e (r : Int) : Res := ⟨.v (.one (.d (.int .i64) r)), []⟩
abbrev T (δ : Type) : Type := D_api_Op → Option δ
abbrev A {δ : Type} (g : T δ) : Arm δ := ⟨[.s T_api_Op], [], fun x y => g x.1.1⟩
abbrev G : Type := T Int
def ct (g : G) : Ct := mkCt 0 [] [A g] e
section
variable {β : Type} (g6 : transomlaw10_Few.G) (g11 : transomlaw05_Few.G)
noncomputable abbrev env : FEnv := mkEnv prog f5 [(6, transomlaw10_Few.ct g6), (11, transomlaw05_Few.ct g11)] 0 [] []
def c (ret : Int → Option β) (a0 : D_api_Op) : Option β := (bif (decide ((a0.2.1.size : Int) > (500 : Int))) then (ret ((0 : Int))) else ((g11 a0.2.2.1).bind fun r0 => (bif (r0 == (0 : Int)) then (ret ((0 : Int))) else ((g11 a0.2.2.2.1).bind fun r1 => (bif (r1 == (0 : Int)) then (ret ((0 : Int))) else ((g11 a0.2.2.2.2.1).bind fun r2 => (bif (r2 == (0 : Int)) then (ret ((0 : Int))) else ((g6 a0.2.2.2.2.2.2.1).bind fun r3 => (bif (r3 == (0 : Int)) then (ret ((0 : Int))) else (ret ((1 : Int))))))))))))
variable {g6} {g11}
theorem ev : EvA (env g6 g11) [] [0] e (A (c g6 g11 some)) := fun x y => Eq.trans (b := (A (c g6 g11 fun r => some (e r))).G x y) (by kernel_rfl) (by simp only [A, c, bo, so, oa, os, on, ofs])
end
def f (k : Nat) (a0 : D_api_Op) : Option Int := c (transomlaw10_Few.f k) (transomlaw05_Few.f k) some a0
noncomputable abbrev E (k : Nat) : FEnv := env (transomlaw10_Few.f k) (transomlaw05_Few.f k) 
theorem hE (k : Nat) : EnvOK (E k).toEnv := ctsOK (Lc (transomlaw10_Few.ok k) (Lc (transomlaw05_Few.ok k) L0))
theorem ok (k : Nat) : CtOK prog 5 (ct (f k)) := fn_ok func5 rfl (by decide) (hE k) L0 (Lc ev L0)
end transomlaw13_FewOp
namespace story_plain
abbrev R : Type := (List (Int × ByteArray))
def e (r : R) : Res := ⟨.v (.one (.mp 0)), [some (.mp (.int .i64) .str r)]⟩
abbrev T (δ : Type) : Type := Option δ
abbrev A {δ : Type} (g : T δ) : Arm δ := ⟨[], [], fun x y => g⟩
abbrev G : Type := T R
def ct (g : G) : Ct := mkCt 0 [] [A g] e
section
variable {β : Type} 
noncomputable abbrev env : FEnv := mkEnv prog f15 [] 0 [] []
def c (ret : R → Option β)  : Option β := (ret ((((([] ++ [((3 : Int), (ByteArray.mk (List.toArray [109, 105, 103, 114, 97, 116, 101])))]) ++ [((4 : Int), (ByteArray.mk (List.toArray [116, 105, 99, 107])))]) ++ [((5 : Int), (ByteArray.mk (List.toArray [99, 111, 108, 108, 101, 99, 116])))]) ++ [((6 : Int), (ByteArray.mk (List.toArray [102, 114, 101, 101])))])))
theorem ev : EvA (env) [] [] e (A (c some)) := fun x y => Eq.trans (b := (A (c fun r => some (e r))).G x y) (by kernel_rfl) (by simp only [A, c, bo, so, oa, os, on, ofs])
end
def f (k : Nat)  : Option R := c  some 
noncomputable abbrev E (k : Nat) : FEnv := env  
theorem hE (k : Nat) : EnvOK (E k).toEnv := ctsOK L0
theorem ok (k : Nat) : CtOK prog 15 (ct (f k)) := fn_ok func15 rfl (by decide) (hE k) L0 (Lc ev L0)
end story_plain
namespace sw_word
abbrev R : Type := Int × (List ByteArray)
def e (r : R) : Res := ⟨.tup [], [some (.box [(.own 1), (.d (.int .i64) r.1)]), some (.own .str false r.2)]⟩
abbrev T0 (δ : Type) : Type := (List ByteArray) → Int → (List ByteArray) → Option δ
abbrev A0 {δ : Type} (g : T0 δ) : Arm δ := ⟨[.k (.ptr 0 0), .d (.sl .str)], [.box [.c (.own 1), .g (.int .i64)], .own .str false], fun x y => g x.2.1 y.1.2.1 y.2.1⟩
abbrev T1 (δ : Type) : Type := (List ByteArray) → Int → Option δ
abbrev A1 {δ : Type} (g : T1 δ) : Arm δ := ⟨[.k (.ptr 0 0), .d (.sl .str)], [.box [.c .nilS, .g (.int .i64)]], fun x y => g x.2.1 y.1.2.1⟩
abbrev G0 : Type := T0 R
abbrev G1 : Type := T1 R
def ct (g0 : G0) (g1 : G1) : Ct := mkCt 1 [] [A0 g0, A1 g1] e
section
variable {β : Type} 
noncomputable abbrev env : FEnv := mkEnv prog f16 [] 1 [] []
def c0 (ret : R → Option β) (a0 : List ByteArray) (a1 : Int) (a2 : List ByteArray) : Option β := (bif (decide (((a2.length + a0.length) * (16 : Nat)) ≤ (35184372088832 : Nat))) then (ret (a1, (a2 ++ a0))) else none)
def c1 (ret : R → Option β) (a0 : List ByteArray) (a1 : Int) : Option β := (bif (decide ((((0 : Nat) + a0.length) * (16 : Nat)) ≤ (35184372088832 : Nat))) then (ret (a1, ([] ++ a0))) else none)
theorem ev0 : EvA (env) [] [0, 1] e (A0 (c0 some)) := fun x y => Eq.trans (b := (A0 (c0 fun r => some (e r))).G x y) (by kernel_rfl) (by simp only [A0, c0, bo, so, oa, os, on, ofs])
theorem ev1 : EvA (env) [] [0, 1] e (A1 (c1 some)) := fun x y => Eq.trans (b := (A1 (c1 fun r => some (e r))).G x y) (by kernel_rfl) (by simp only [A1, c1, bo, so, oa, os, on, ofs])
end
def f0 (k : Nat) (a0 : List ByteArray) (a1 : Int) (a2 : List ByteArray) : Option R := c0  some a0 a1 a2
def f1 (k : Nat) (a0 : List ByteArray) (a1 : Int) : Option R := c1  some a0 a1
noncomputable abbrev E (k : Nat) : FEnv := env  
theorem hE (k : Nat) : EnvOK (E k).toEnv := ctsOK L0
theorem ok (k : Nat) : CtOK prog 16 (ct (f0 k) (f1 k)) := fn_ok func16 rfl (by decide) (hE k) L0 (Lc ev0 (Lc ev1 L0))
end sw_word
namespace sw_fail
abbrev R : Type := (Int × (List ByteArray)) ⊕ Int
def e (r : R) : Res := Sum.elim (fun r =>  ⟨.tup [], [some (.box [(.own 1), (.d (.int .i64) r.1)]), some (.own .str false r.2)]⟩) (fun r =>  ⟨.tup [], [some (.box [(.raw (.slice none 0 0)), (.d (.int .i64) r)])]⟩) r
abbrev T0 (δ : Type) : Type := Int → Int → (List ByteArray) → Option δ
abbrev A0 {δ : Type} (g : T0 δ) : Arm δ := ⟨[.k (.ptr 0 0), .d (.int .i64)], [.box [.c (.own 1), .g (.int .i64)], .own .str false], fun x y => g x.2.1 y.1.2.1 y.2.1⟩
abbrev T1 (δ : Type) : Type := Int → Int → Option δ
abbrev A1 {δ : Type} (g : T1 δ) : Arm δ := ⟨[.k (.ptr 0 0), .d (.int .i64)], [.box [.c .nilS, .g (.int .i64)]], fun x y => g x.2.1 y.1.2.1⟩
abbrev G0 : Type := T0 R
abbrev G1 : Type := T1 R
def ek {β : Type} (r : R) (K : Res → Option β) : Option β := Sum.elim (fun r => K ⟨.tup [], [some (.box [(.own 1), (.d (.int .i64) r.1)]), some (.own .str false r.2)]⟩) (fun r => K ⟨.tup [], [some (.box [(.raw (.slice none 0 0)), (.d (.int .i64) r)])]⟩) r
theorem hk {β : Type} (r : R) (K : Res → Option β) : ek r K = K (e r) := by rcases r with _ | _ <;> rfl
def ct (g0 : G0) (g1 : G1) : Ct := mkCtS 1 [] [A0 g0, A1 g1] e ek hk
section
variable {β : Type} 
noncomputable abbrev env : FEnv := mkEnv prog f19 [] 1 [] []
def c0 (ret : R → Option β) (a0 a1 : Int) (a2 : List ByteArray) : Option β := (bif (a1 == (0 : Int)) then (ret (.inl (a0, a2))) else (ret (.inl (a1, a2))))
def c1 (ret : R → Option β) (a0 a1 : Int) : Option β := (bif (a1 == (0 : Int)) then (ret (.inr (a0))) else (ret (.inr (a1))))
theorem ev0 : EvA (env) [] [0, 1] e (A0 (c0 some)) := fun x y => Eq.trans (b := (A0 (c0 fun r => some (e r))).G x y) (by kernel_rfl) (by simp only [A0, c0, bo, so, oa, os, on, ofs])
theorem ev1 : EvA (env) [] [0, 1] e (A1 (c1 some)) := fun x y => Eq.trans (b := (A1 (c1 fun r => some (e r))).G x y) (by kernel_rfl) (by simp only [A1, c1, bo, so, oa, os, on, ofs])
end
def f0 (k : Nat) (a0 a1 : Int) (a2 : List ByteArray) : Option R := c0  some a0 a1 a2
def f1 (k : Nat) (a0 a1 : Int) : Option R := c1  some a0 a1
noncomputable abbrev E (k : Nat) : FEnv := env  
theorem hE (k : Nat) : EnvOK (E k).toEnv := ctsOK L0
theorem ok (k : Nat) : CtOK prog 19 (ct (f0 k) (f1 k)) := fn_okS hk (fn_ok func19 rfl (by decide) (hE k) L0 (Lc ev0 (Lc ev1 L0)))
end sw_fail
namespace convert_Digits
def e (r : ByteArray) : Res := ⟨.v (.one (.d .str r)), []⟩
abbrev T (δ : Type) : Type := Int → Option δ
abbrev A {δ : Type} (g : T δ) : Arm δ := ⟨[.d (.int .i64)], [], fun x y => g x.1⟩
abbrev G : Type := T ByteArray
def ct (g : G) : Ct := mkCt 0 [] [A g] e
abbrev S0 (δ : Type) : Type := Int → Int → Option δ
abbrev A_0 {δ : Type} (s : S0 δ) : Arm δ := ⟨[.d (.int .i64), .d (.int .u64)], [], fun x y => s x.1 x.2.1⟩
abbrev S1 (δ : Type) : Type := Int → Int → Int → (List Int) → Option δ
abbrev A_1 {δ : Type} (s : S1 δ) : Arm δ := ⟨[.d (.int .i64), .d (.int .u64), .k (.arr 0 20), .d (.int .i64)], [.own (.int .u8) true], fun x y => s x.1 x.2.1 x.2.2.2.1 y.1⟩
abbrev S2 (δ : Type) : Type := Int → Int → Int → Bool → (List Int) → Option δ
abbrev A_2 {δ : Type} (s : S2 δ) : Arm δ := ⟨[.d (.int .i64), .d (.int .u64), .k (.arr 0 20), .d (.int .i64), .d .bool], [.own (.int .u8) true], fun x y => s x.1 x.2.1 x.2.2.2.1 x.2.2.2.2.1 y.1⟩
abbrev S3 (δ : Type) : Type := Int → Int → Int → (List Int) → Option δ
abbrev A_3 {δ : Type} (s : S3 δ) : Arm δ := ⟨[.d (.int .i64), .d (.int .u64), .k (.arr 0 20), .d (.int .i64)], [.own (.int .u8) true], fun x y => s x.1 x.2.1 x.2.2.2.1 y.1⟩
def sg0 (s : S0 ByteArray) : Seg := mkSg [1, 1, 1] [] [0, 3] [A_0 s] e
def sg1 (s : S1 ByteArray) : Seg := mkSg [4, 0, 1, 1, 1, 1, 1] [] [0, 3, 4, 5] [A_1 s] e
def sg2 (s : S2 ByteArray) : Seg := mkSg [1, 0, 5, 4, 0, 1, 1, 1, 1, 1] [] [0, 3, 4, 5, 17] [A_2 s] e
def sg3 (s : S3 ByteArray) : Seg := mkSg [1, 5, 4, 0, 1, 1, 1, 1, 1] [] [0, 3, 4, 5] [A_3 s] e
section
variable {β : Type} (s0 : S0 ByteArray) (s1 : S1 ByteArray) (s2 : S2 ByteArray) (s3 : S3 ByteArray)
noncomputable abbrev env : FEnv := mkEnv prog f24 [] 0 [] [sg0 s0, sg1 s1, sg2 s2, sg3 s3]
def c (ret : ByteArray → Option β) (a0 : Int) : Option β := (bif (decide (a0 < (0 : Int))) then ((s0 a0 (IntKind.wrap .u64 ((0 : Int) - (IntKind.wrap .u64 a0)))).bind ret) else ((s0 a0 (IntKind.wrap .u64 a0)).bind ret))
def s0c (ret : ByteArray → Option β) (x0 x1 : Int) : Option β := ((s1 x0 x1 (20 : Int) [(0 : Int), (0 : Int), (0 : Int), (0 : Int), (0 : Int), (0 : Int), (0 : Int), (0 : Int), (0 : Int), (0 : Int), (0 : Int), (0 : Int), (0 : Int), (0 : Int), (0 : Int), (0 : Int), (0 : Int), (0 : Int), (0 : Int), (0 : Int)]).bind ret)
def s1c (ret : ByteArray → Option β) (x0 x1 x2 : Int) (x3 : List Int) : Option β := (bif (x2 == (20 : Int)) then ((s2 x0 x1 x2 true x3).bind ret) else ((s2 x0 x1 x2 (decide (x1 > (0 : Int))) x3).bind ret))
def s2c (ret : ByteArray → Option β) (x0 x1 x2 : Int) (x3 : Bool) (x4 : List Int) : Option β := (bif x3 then ((s3 x0 x1 x2 x4).bind ret) else (bif (decide (x0 < (0 : Int))) then (bif ((decide ((0 : Int) ≤ (IntKind.wrap .i64 (x2 - (1 : Int))))) && (decide ((IntKind.wrap .i64 (x2 - (1 : Int))) < (20 : Int)))) then (bif (((decide ((0 : Int) ≤ (IntKind.wrap .i64 (x2 - (1 : Int))))) && (decide ((IntKind.wrap .i64 (x2 - (1 : Int))) ≤ (20 : Int)))) && true) then (ret ((ByteArray.mk (List.toArray (List.map (fun n => (UInt8.ofNat (Int.toNat n))) (List.take ((20 : Nat) - (Int.toNat (IntKind.wrap .i64 (x2 - (1 : Int))))) (List.drop (Int.toNat (IntKind.wrap .i64 (x2 - (1 : Int)))) (List.set x4 (Int.toNat (IntKind.wrap .i64 (x2 - (1 : Int)))) (45 : Int))))))))) else none) else none) else (bif (((decide ((0 : Int) ≤ x2)) && (decide (x2 ≤ (20 : Int)))) && true) then (ret ((ByteArray.mk (List.toArray (List.map (fun n => (UInt8.ofNat (Int.toNat n))) (List.take ((20 : Nat) - (Int.toNat x2)) (List.drop (Int.toNat x2) x4))))))) else none)))
def s3c (ret : ByteArray → Option β) (x0 x1 x2 : Int) (x3 : List Int) : Option β := (bif ((decide ((0 : Int) ≤ (IntKind.wrap .i64 (x2 - (1 : Int))))) && (decide ((IntKind.wrap .i64 (x2 - (1 : Int))) < (20 : Int)))) then ((s1 x0 (IntKind.wrap .u64 (Int.tdiv x1 (10 : Int))) (IntKind.wrap .i64 (x2 - (1 : Int))) (List.set x3 (Int.toNat (IntKind.wrap .i64 (x2 - (1 : Int)))) (IntKind.wrap .u8 (IntKind.wrap .u64 ((48 : Int) + (Int.tmod x1 (10 : Int))))))).bind ret) else none)
variable {s0} {s1} {s2} {s3}
theorem ev : EvA (env s0 s1 s2 s3) [] [0] e (A (c s0 some)) := fun x y => Eq.trans (b := (A (c s0 fun r => some (e r))).G x y) (by kernel_rfl) (by simp only [A, c, bo, so, oa, os, on, ofs])
theorem s0_ev : EvA (env s0 s1 s2 s3) [1, 1, 1] [0, 3] e (A_0 (s0c s1 some)) := fun x y => Eq.trans (b := (A_0 (s0c s1 fun r => some (e r))).G x y) (by kernel_rfl) (by simp only [A_0, s0c, bo, so, oa, os, on, ofs])
theorem s1_ev : EvA (env s0 s1 s2 s3) [4, 0, 1, 1, 1, 1, 1] [0, 3, 4, 5] e (A_1 (s1c s2 some)) := fun x y => Eq.trans (b := (A_1 (s1c s2 fun r => some (e r))).G x y) (by kernel_rfl) (by simp only [A_1, s1c, bo, so, oa, os, on, ofs])
theorem s2_ev : EvA (env s0 s1 s2 s3) [1, 0, 5, 4, 0, 1, 1, 1, 1, 1] [0, 3, 4, 5, 17] e (A_2 (s2c s3 some)) := fun x y => Eq.trans (b := (A_2 (s2c s3 fun r => some (e r))).G x y) (by kernel_rfl) (by simp only [A_2, s2c, bo, so, oa, os, on, ofs])
theorem s3_ev : EvA (env s0 s1 s2 s3) [1, 5, 4, 0, 1, 1, 1, 1, 1] [0, 3, 4, 5] e (A_3 (s3c s1 some)) := fun x y => Eq.trans (b := (A_3 (s3c s1 fun r => some (e r))).G x y) (by kernel_rfl) (by simp only [A_3, s3c, bo, so, oa, os, on, ofs])
end
mutual
def s0 : Nat → S0 ByteArray
 | 0, _, _ => none
 | k + 1, x0, x1 => s0c (s1 k) some x0 x1
def s1 : Nat → S1 ByteArray
 | 0, _, _, _, _ => none
 | k + 1, x0, x1, x2, x3 => s1c (s2 k) some x0 x1 x2 x3
def s2 : Nat → S2 ByteArray
 | 0, _, _, _, _, _ => none
 | k + 1, x0, x1, x2, x3, x4 => s2c (s3 k) some x0 x1 x2 x3 x4
def s3 : Nat → S3 ByteArray
 | 0, _, _, _, _ => none
 | k + 1, x0, x1, x2, x3 => s3c (s1 k) some x0 x1 x2 x3
end
def f (k : Nat) (a0 : Int) : Option ByteArray := c (s0 k) some a0
noncomputable abbrev E (k : Nat) : FEnv := env  (s0 k) (s1 k) (s2 k) (s3 k)
theorem hE (k : Nat) : EnvOK (E k).toEnv := ctsOK L0
theorem sk : ∀ k, ∀ s ∈ [sg0 (s0 k), sg1 (s1 k), sg2 (s2 k), sg3 (s3 k)], SegB prog f24 0 s
 | 0 => (Lc (sn (Lc (fun _ _ => rfl) L0)) (Lc (sn (Lc (fun _ _ => rfl) L0)) (Lc (sn (Lc (fun _ _ => rfl) L0)) (Lc (sn (Lc (fun _ _ => rfl) L0)) L0))))
 | k + 1 => (Lc (sg_ok (hE k) (sk k) (Lc s0_ev L0)) (Lc (sg_ok (hE k) (sk k) (Lc s1_ev L0)) (Lc (sg_ok (hE k) (sk k) (Lc s2_ev L0)) (Lc (sg_ok (hE k) (sk k) (Lc s3_ev L0)) L0))))
theorem ok (k : Nat) : CtOK prog 24 (ct (f k)) := fn_ok func24 rfl (by decide) (hE k) (sk k) (Lc ev L0)
end convert_Digits
namespace sw_number
abbrev R : Type := Int × (List ByteArray)
def e (r : R) : Res := ⟨.tup [], [some (.box [(.own 1), (.d (.int .i64) r.1)]), some (.own .str false r.2)]⟩
abbrev T (δ : Type) : Type := Int → Int → (List ByteArray) → Option δ
abbrev A {δ : Type} (g : T δ) : Arm δ := ⟨[.k (.ptr 0 0), .d (.int .i64)], [.box [.c (.own 1), .g (.int .i64)], .own .str false], fun x y => g x.2.1 y.1.2.1 y.2.1⟩
abbrev G : Type := T R
def ct (g : G) : Ct := mkCt 1 [] [A g] e
section
variable {β : Type} (g16_0 : sw_word.G0) (g16_1 : sw_word.G1) (g19_0 : sw_fail.G0) (g19_1 : sw_fail.G1) (g24 : convert_Digits.G)
noncomputable abbrev env : FEnv := mkEnv prog f17 [(16, sw_word.ct g16_0 g16_1), (19, sw_fail.ct g19_0 g19_1), (24, convert_Digits.ct g24)] 1 [] []
def c (ret : R → Option β) (a0 a1 : Int) (a2 : List ByteArray) : Option β := (bif (decide (a0 < (0 : Int))) then ((g19_0 (1 : Int) a1 a2).bind fun r0 => (Sum.elim (fun r1 => ((g24 a0).bind fun r2 => ((g16_0 [r2] r1.1 r1.2).bind fun r3 => (ret (r3.1, r3.2))))) (fun r4 => ((g24 a0).bind fun r5 => ((g16_1 [r5] r4).bind fun r6 => (ret (r6.1, r6.2))))) r0)) else (bif (decide (a0 > (1000 : Int))) then ((g19_0 (1 : Int) a1 a2).bind fun r7 => (Sum.elim (fun r8 => ((g24 a0).bind fun r9 => ((g16_0 [r9] r8.1 r8.2).bind fun r10 => (ret (r10.1, r10.2))))) (fun r11 => ((g24 a0).bind fun r12 => ((g16_1 [r12] r11).bind fun r13 => (ret (r13.1, r13.2))))) r7)) else ((g24 a0).bind fun r14 => ((g16_0 [r14] a1 a2).bind fun r15 => (ret (r15.1, r15.2))))))
variable {g16_0} {g16_1} {g19_0} {g19_1} {g24}
theorem ev : EvA (env g16_0 g16_1 g19_0 g19_1 g24) [] [0, 1] e (A (c g16_0 g16_1 g19_0 g24 some)) := fun x y => Eq.trans (b := (A (c g16_0 g16_1 g19_0 g24 fun r => some (e r))).G x y) (by kernel_rfl) (by simp only [A, c, bo, so, oa, os, on, ofs])
end
def f (k : Nat) (a0 a1 : Int) (a2 : List ByteArray) : Option R := c (sw_word.f0 k) (sw_word.f1 k) (sw_fail.f0 k) (convert_Digits.f k) some a0 a1 a2
noncomputable abbrev E (k : Nat) : FEnv := env (sw_word.f0 k) (sw_word.f1 k) (sw_fail.f0 k) (sw_fail.f1 k) (convert_Digits.f k) 
theorem hE (k : Nat) : EnvOK (E k).toEnv := ctsOK (Lc (sw_word.ok k) (Lc (sw_fail.ok k) (Lc (convert_Digits.ok k) L0)))
theorem ok (k : Nat) : CtOK prog 17 (ct (f k)) := fn_ok func17 rfl (by decide) (hE k) L0 (Lc ev L0)
end sw_number
end Go.Proofs.YtimadphjdkjgaaaDoor.Aev
