import Derived.Test.YtijjlpgcpdapnaaGreatDoorTys
import Derived.Test.YtijjlpgcpdapnaaGreatDoorProg
import Derived.Laws.Externs
import Derived.Lib.Bytealg
import Derived.Test.YtijjlpgcpdapnaaGreatDoorAevY
import Derived.Below
import Derived.LaidEql
import Derived.RowKitTokens
import Derived.Stop.Asserts
import Derived.WalkKit
/- By a program of this session (AEV): functions of the program as plain functions, and that the machine does what they say. -/
namespace Go.Proofs.YtijjlpgcpdapnaaGreatDoor.Aev
set_option linter.unusedVariables false
set_option linter.unusedSimpArgs false
set_option maxRecDepth 100000
set_option maxHeartbeats 4000000
open Go Go.Proofs.Tryz
namespace transomlaw04_Few
def e (r : Int) : Res := ⟨.v (.one (.d (.int .i64) r)), []⟩
abbrev T (δ : Type) : Type := Int → Int → Int → ByteArray → Option δ
abbrev A {δ : Type} (g : T δ) : Arm δ := ⟨[.s T_api_Value], [], fun x y => g x.1.1.1 x.1.1.2.1 x.1.1.2.2.1 x.1.1.2.2.2.1⟩
abbrev G : Type := T Int
def ct (g : G) : Ct := mkCt 0 [] [A g] e
section
variable {β : Type} 
noncomputable abbrev env : FEnv := mkEnv prog f22 [] 0 [] []
def c (ret : Int → Option β) (a0 a1 a2 : Int) (a3 : ByteArray) : Option β := (bif (decide ((a3.size : Int) > (2000 : Int))) then (ret ((0 : Int))) else (ret ((1 : Int))))
theorem ev : EvA (env) [] [0] e (A (c some)) := fun x y => Eq.trans (b := (A (c fun r => some (e r))).G x y) (by kernel_rfl) (by simp only [A, c, bo, so, oa, os, on, ofs])
end
def f (k : Nat) (a0 a1 a2 : Int) (a3 : ByteArray) : Option Int := c  some a0 a1 a2 a3
noncomputable abbrev E (k : Nat) : FEnv := env  
theorem hE (k : Nat) : EnvOK (E k).toEnv := ctsOK L0
theorem ok (k : Nat) : CtOK prog 22 (ct (f k)) := fn_ok func22 rfl (by decide) (hE k) L0 (Lc ev L0)
end transomlaw04_Few
namespace transomlaw09_Few
def e (r : Int) : Res := ⟨.v (.one (.d (.int .i64) r)), []⟩
abbrev T (δ : Type) : Type := ByteArray → Int → (List D_api_Col) → Option δ
abbrev A {δ : Type} (g : T δ) : Arm δ := ⟨[.s T_api_Table], [], fun x y => g x.1.1.1 x.1.1.2.1 x.1.1.2.2.1⟩
abbrev G : Type := T Int
def ct (g : G) : Ct := mkCt 0 [] [A g] e
abbrev S0 (δ : Type) : Type := Bool → ByteArray → Int → (List D_api_Col) → Option δ
abbrev A_0 {δ : Type} (s : S0 δ) : Arm δ := ⟨[.k (.ptr 0 0), .d .bool], [.box [.g T_api_Table]], fun x y => s x.2.1 y.1.1.1 y.1.1.2.1 y.1.1.2.2.1⟩
abbrev S1 (δ : Type) : Type := ByteArray → Int → (List D_api_Col) → Option δ
abbrev A_1 {δ : Type} (s : S1 δ) : Arm δ := ⟨[.k (.ptr 0 0)], [.box [.g T_api_Table]], fun x y => s y.1.1.1 y.1.1.2.1 y.1.1.2.2.1⟩
abbrev S2 (δ : Type) : Type := Int → ByteArray → Int → (List D_api_Col) → Option δ
abbrev A_2 {δ : Type} (s : S2 δ) : Arm δ := ⟨[.k (.ptr 0 0), .d (.int .i64)], [.box [.g T_api_Table]], fun x y => s x.2.1 y.1.1.1 y.1.1.2.1 y.1.1.2.2.1⟩
abbrev S3 (δ : Type) : Type := Int → Bool → ByteArray → Int → (List D_api_Col) → Option δ
abbrev A_3 {δ : Type} (s : S3 δ) : Arm δ := ⟨[.k (.ptr 0 0), .d (.int .i64), .d .bool], [.box [.g T_api_Table]], fun x y => s x.2.1 x.2.2.1 y.1.1.1 y.1.1.2.1 y.1.1.2.2.1⟩
abbrev S4 (δ : Type) : Type := Int → ByteArray → Int → (List D_api_Col) → Option δ
abbrev A_4 {δ : Type} (s : S4 δ) : Arm δ := ⟨[.k (.ptr 0 0), .d (.int .i64)], [.box [.g T_api_Table]], fun x y => s x.2.1 y.1.1.1 y.1.1.2.1 y.1.1.2.2.1⟩
def sg0 (s : S0 Int) : Seg := mkSg [1, 0, 1] [] [1, 13] [A_0 s] e
def sg1 (s : S1 Int) : Seg := mkSg [1, 1] [] [1] [A_1 s] e
def sg2 (s : S2 Int) : Seg := mkSg [4, 1, 0, 1, 1] [] [1, 3] [A_2 s] e
def sg3 (s : S3 Int) : Seg := mkSg [1, 4, 0, 1, 5, 4, 1, 0, 1, 1] [] [1, 3, 38] [A_3 s] e
def sg4 (s : S4 Int) : Seg := mkSg [1, 1, 5, 4, 1, 0, 1, 1] [] [1, 3] [A_4 s] e
section
variable {β : Type} (g22 : transomlaw04_Few.G) (s0 : S0 Int) (s1 : S1 Int) (s2 : S2 Int) (s3 : S3 Int) (s4 : S4 Int)
noncomputable abbrev env : FEnv := mkEnv prog f6 [(22, transomlaw04_Few.ct g22)] 0 [] [sg0 s0, sg1 s1, sg2 s2, sg3 s3, sg4 s4]
def c (ret : Int → Option β) (a0 : ByteArray) (a1 : Int) (a2 : List D_api_Col) : Option β := (bif (decide ((a2.length : Int) > (20 : Int))) then ((s0 true a0 a1 a2).bind ret) else ((s0 (decide ((a0.size : Int) > (500 : Int))) a0 a1 a2).bind ret))
def s0c (ret : Int → Option β) (x0 : Bool) (x1 : ByteArray) (x2 : Int) (x3 : List D_api_Col) : Option β := (bif x0 then (ret ((0 : Int))) else ((s1 x1 x2 x3).bind ret))
def s1c (ret : Int → Option β) (x0 : ByteArray) (x1 : Int) (x2 : List D_api_Col) : Option β := ((s2 (0 : Int) x0 x1 x2).bind ret)
def s2c (ret : Int → Option β) (x0 : Int) (x1 : ByteArray) (x2 : Int) (x3 : List D_api_Col) : Option β := (bif (decide (x0 < (x3.length : Int))) then (bif ((decide ((0 : Int) ≤ x0)) && (decide (x0 < (x3.length : Int)))) then (bif (decide (((ByteArray.size (elem T_api_Col x3 x0).1) : Int) > (500 : Int))) then ((s3 x0 true x1 x2 x3).bind ret) else (bif ((decide ((0 : Int) ≤ x0)) && (decide (x0 < (x3.length : Int)))) then ((g22 (elem T_api_Col x3 x0).2.2.2.1.1 (elem T_api_Col x3 x0).2.2.2.1.2.1 (elem T_api_Col x3 x0).2.2.2.1.2.2.1 (elem T_api_Col x3 x0).2.2.2.1.2.2.2.1).bind fun r0 => ((s3 x0 (r0 == (0 : Int)) x1 x2 x3).bind ret)) else none)) else none) else (ret ((1 : Int))))
def s3c (ret : Int → Option β) (x0 : Int) (x1 : Bool) (x2 : ByteArray) (x3 : Int) (x4 : List D_api_Col) : Option β := (bif x1 then (ret ((0 : Int))) else ((s4 x0 x2 x3 x4).bind ret))
def s4c (ret : Int → Option β) (x0 : Int) (x1 : ByteArray) (x2 : Int) (x3 : List D_api_Col) : Option β := ((s2 (IntKind.wrap .i64 (x0 + (1 : Int))) x1 x2 x3).bind ret)
variable {g22} {s0} {s1} {s2} {s3} {s4}
theorem ev : EvA (env g22 s0 s1 s2 s3 s4) [] [0] e (A (c s0 some)) := fun x y => Eq.trans (b := (A (c s0 fun r => some (e r))).G x y) (by kernel_rfl) (by simp only [A, c, bo, so, oa, os, on, ofs])
theorem s0_ev : EvA (env g22 s0 s1 s2 s3 s4) [1, 0, 1] [1, 13] e (A_0 (s0c s1 some)) := fun x y => Eq.trans (b := (A_0 (s0c s1 fun r => some (e r))).G x y) (by kernel_rfl) (by simp only [A_0, s0c, bo, so, oa, os, on, ofs])
theorem s1_ev : EvA (env g22 s0 s1 s2 s3 s4) [1, 1] [1] e (A_1 (s1c s2 some)) := fun x y => Eq.trans (b := (A_1 (s1c s2 fun r => some (e r))).G x y) (by kernel_rfl) (by simp only [A_1, s1c, bo, so, oa, os, on, ofs])
theorem s2_ev : EvA (env g22 s0 s1 s2 s3 s4) [4, 1, 0, 1, 1] [1, 3] e (A_2 (s2c g22 s3 some)) := fun x y => Eq.trans (b := (A_2 (s2c g22 s3 fun r => some (e r))).G x y) (by kernel_rfl) (by simp only [A_2, s2c, bo, so, oa, os, on, ofs])
theorem s3_ev : EvA (env g22 s0 s1 s2 s3 s4) [1, 4, 0, 1, 5, 4, 1, 0, 1, 1] [1, 3, 38] e (A_3 (s3c s4 some)) := fun x y => Eq.trans (b := (A_3 (s3c s4 fun r => some (e r))).G x y) (by kernel_rfl) (by simp only [A_3, s3c, bo, so, oa, os, on, ofs])
theorem s4_ev : EvA (env g22 s0 s1 s2 s3 s4) [1, 1, 5, 4, 1, 0, 1, 1] [1, 3] e (A_4 (s4c s2 some)) := fun x y => Eq.trans (b := (A_4 (s4c s2 fun r => some (e r))).G x y) (by kernel_rfl) (by simp only [A_4, s4c, bo, so, oa, os, on, ofs])
end
mutual
def s0 : Nat → S0 Int
 | 0, _, _, _, _ => none
 | k + 1, x0, x1, x2, x3 => s0c (s1 k) some x0 x1 x2 x3
def s1 : Nat → S1 Int
 | 0, _, _, _ => none
 | k + 1, x0, x1, x2 => s1c (s2 k) some x0 x1 x2
def s2 : Nat → S2 Int
 | 0, _, _, _, _ => none
 | k + 1, x0, x1, x2, x3 => s2c (transomlaw04_Few.f k) (s3 k) some x0 x1 x2 x3
def s3 : Nat → S3 Int
 | 0, _, _, _, _, _ => none
 | k + 1, x0, x1, x2, x3, x4 => s3c (s4 k) some x0 x1 x2 x3 x4
def s4 : Nat → S4 Int
 | 0, _, _, _, _ => none
 | k + 1, x0, x1, x2, x3 => s4c (s2 k) some x0 x1 x2 x3
end
def f (k : Nat) (a0 : ByteArray) (a1 : Int) (a2 : List D_api_Col) : Option Int := c (s0 k) some a0 a1 a2
noncomputable abbrev E (k : Nat) : FEnv := env (transomlaw04_Few.f k) (s0 k) (s1 k) (s2 k) (s3 k) (s4 k)
theorem hE (k : Nat) : EnvOK (E k).toEnv := ctsOK (Lc (transomlaw04_Few.ok k) L0)
theorem sk : ∀ k, ∀ s ∈ [sg0 (s0 k), sg1 (s1 k), sg2 (s2 k), sg3 (s3 k), sg4 (s4 k)], SegB prog f6 0 s
 | 0 => (Lc (sn (Lc (fun _ _ => rfl) L0)) (Lc (sn (Lc (fun _ _ => rfl) L0)) (Lc (sn (Lc (fun _ _ => rfl) L0)) (Lc (sn (Lc (fun _ _ => rfl) L0)) (Lc (sn (Lc (fun _ _ => rfl) L0)) L0)))))
 | k + 1 => (Lc (sg_ok (hE k) (sk k) (Lc s0_ev L0)) (Lc (sg_ok (hE k) (sk k) (Lc s1_ev L0)) (Lc (sg_ok (hE k) (sk k) (Lc s2_ev L0)) (Lc (sg_ok (hE k) (sk k) (Lc s3_ev L0)) (Lc (sg_ok (hE k) (sk k) (Lc s4_ev L0)) L0)))))
theorem ok (k : Nat) : CtOK prog 6 (ct (f k)) := fn_ok func6 rfl (by decide) (hE k) (sk k) (Lc ev L0)
end transomlaw09_Few
namespace transomlaw08_Few
def e (r : Int) : Res := ⟨.v (.one (.d (.int .i64) r)), []⟩
abbrev T (δ : Type) : Type := (List ByteArray) → Option δ
abbrev A {δ : Type} (g : T δ) : Arm δ := ⟨[.d (.sl .str)], [], fun x y => g x.1⟩
abbrev G : Type := T Int
def ct (g : G) : Ct := mkCt 0 [] [A g] e
abbrev S0 (δ : Type) : Type := (List ByteArray) → Int → Option δ
abbrev A_0 {δ : Type} (s : S0 δ) : Arm δ := ⟨[.d (.sl .str), .d (.int .i64)], [], fun x y => s x.1 x.2.1⟩
def sg0 (s : S0 Int) : Seg := mkSg [4, 1, 0, 1, 1] [] [0, 3] [A_0 s] e
section
variable {β : Type} (s0 : S0 Int)
noncomputable abbrev env : FEnv := mkEnv prog f23 [] 0 [] [sg0 s0]
def c (ret : Int → Option β) (a0 : List ByteArray) : Option β := (bif (decide ((a0.length : Int) > (60 : Int))) then (ret ((0 : Int))) else ((s0 a0 (0 : Int)).bind ret))
def s0c (ret : Int → Option β) (x0 : List ByteArray) (x1 : Int) : Option β := (bif (decide (x1 < (x0.length : Int))) then (bif ((decide ((0 : Int) ≤ x1)) && (decide (x1 < (x0.length : Int)))) then (bif (decide (((ByteArray.size (elem Ty.str x0 x1)) : Int) > (500 : Int))) then (ret ((0 : Int))) else ((s0 x0 (IntKind.wrap .i64 (x1 + (1 : Int)))).bind ret)) else none) else (ret ((1 : Int))))
variable {s0}
theorem ev : EvA (env s0) [] [0] e (A (c s0 some)) := fun x y => Eq.trans (b := (A (c s0 fun r => some (e r))).G x y) (by kernel_rfl) (by simp only [A, c, bo, so, oa, os, on, ofs])
theorem s0_ev : EvA (env s0) [4, 1, 0, 1, 1] [0, 3] e (A_0 (s0c s0 some)) := fun x y => Eq.trans (b := (A_0 (s0c s0 fun r => some (e r))).G x y) (by kernel_rfl) (by simp only [A_0, s0c, bo, so, oa, os, on, ofs])
end
def s0 : Nat → S0 Int
 | 0, _, _ => none
 | k + 1, x0, x1 => s0c (s0 k) some x0 x1
def f (k : Nat) (a0 : List ByteArray) : Option Int := c (s0 k) some a0
noncomputable abbrev E (k : Nat) : FEnv := env  (s0 k)
theorem hE (k : Nat) : EnvOK (E k).toEnv := ctsOK L0
theorem sk : ∀ k, ∀ s ∈ [sg0 (s0 k)], SegB prog f23 0 s
 | 0 => (Lc (sn (Lc (fun _ _ => rfl) L0)) L0)
 | k + 1 => (Lc (sg_ok (hE k) (sk k) (Lc s0_ev L0)) L0)
theorem ok (k : Nat) : CtOK prog 23 (ct (f k)) := fn_ok func23 rfl (by decide) (hE k) (sk k) (Lc ev L0)
end transomlaw08_Few
namespace transomlaw10_Few
def e (r : Int) : Res := ⟨.v (.one (.d (.int .i64) r)), []⟩
abbrev T (δ : Type) : Type := D_api_Change → Option δ
abbrev A {δ : Type} (g : T δ) : Arm δ := ⟨[.s T_api_Change], [], fun x y => g x.1.1⟩
abbrev G : Type := T Int
def ct (g : G) : Ct := mkCt 0 [] [A g] e
section
variable {β : Type} (g6 : transomlaw09_Few.G) (g22 : transomlaw04_Few.G) (g23 : transomlaw08_Few.G)
noncomputable abbrev env : FEnv := mkEnv prog f7 [(6, transomlaw09_Few.ct g6), (22, transomlaw04_Few.ct g22), (23, transomlaw08_Few.ct g23)] 0 [] []
def c (ret : Int → Option β) (a0 : D_api_Change) : Option β := ((g23 a0.2.2.2.2.2.2.2.1).bind fun r0 => (bif (r0 == (0 : Int)) then (ret ((0 : Int))) else ((g23 [a0.2.1, a0.2.2.1, a0.2.2.2.1, a0.2.2.2.2.1, a0.2.2.2.2.2.1, a0.2.2.2.2.2.2.2.2.1.1]).bind fun r1 => (bif (r1 == (0 : Int)) then (ret ((0 : Int))) else ((g6 a0.2.2.2.2.2.2.2.2.2.1.1 a0.2.2.2.2.2.2.2.2.2.1.2.1 a0.2.2.2.2.2.2.2.2.2.1.2.2.1).bind fun r2 => (bif (r2 == (0 : Int)) then (ret ((0 : Int))) else ((g22 a0.2.2.2.2.2.2.2.2.1.2.2.2.1.1 a0.2.2.2.2.2.2.2.2.1.2.2.2.1.2.1 a0.2.2.2.2.2.2.2.2.1.2.2.2.1.2.2.1 a0.2.2.2.2.2.2.2.2.1.2.2.2.1.2.2.2.1).bind fun r3 => (bif (r3 == (0 : Int)) then (ret ((0 : Int))) else (ret ((1 : Int)))))))))))
variable {g6} {g22} {g23}
theorem ev : EvA (env g6 g22 g23) [] [0] e (A (c g6 g22 g23 some)) := fun x y => Eq.trans (b := (A (c g6 g22 g23 fun r => some (e r))).G x y) (by kernel_rfl) (by simp only [A, c, bo, so, oa, os, on, ofs])
end
def f (k : Nat) (a0 : D_api_Change) : Option Int := c (transomlaw09_Few.f k) (transomlaw04_Few.f k) (transomlaw08_Few.f k) some a0
noncomputable abbrev E (k : Nat) : FEnv := env (transomlaw09_Few.f k) (transomlaw04_Few.f k) (transomlaw08_Few.f k) 
theorem hE (k : Nat) : EnvOK (E k).toEnv := ctsOK (Lc (transomlaw09_Few.ok k) (Lc (transomlaw04_Few.ok k) (Lc (transomlaw08_Few.ok k) L0)))
theorem ok (k : Nat) : CtOK prog 7 (ct (f k)) := fn_ok func7 rfl (by decide) (hE k) L0 (Lc ev L0)
end transomlaw10_Few
namespace transomlaw05_Few
def e (r : Int) : Res := ⟨.v (.one (.d (.int .i64) r)), []⟩
abbrev T (δ : Type) : Type := (List D_api_Value) → Option δ
abbrev A {δ : Type} (g : T δ) : Arm δ := ⟨[.d (.sl T_api_Value)], [], fun x y => g x.1⟩
abbrev G : Type := T Int
def ct (g : G) : Ct := mkCt 0 [] [A g] e
abbrev S0 (δ : Type) : Type := (List D_api_Value) → Int → Option δ
abbrev A_0 {δ : Type} (s : S0 δ) : Arm δ := ⟨[.d (.sl T_api_Value), .d (.int .i64)], [], fun x y => s x.1 x.2.1⟩
def sg0 (s : S0 Int) : Seg := mkSg [4, 1, 0, 1, 1] [] [0, 3] [A_0 s] e
section
variable {β : Type} (g22 : transomlaw04_Few.G) (s0 : S0 Int)
noncomputable abbrev env : FEnv := mkEnv prog f8 [(22, transomlaw04_Few.ct g22)] 0 [] [sg0 s0]
def c (ret : Int → Option β) (a0 : List D_api_Value) : Option β := (bif (decide ((a0.length : Int) > (30 : Int))) then (ret ((0 : Int))) else ((s0 a0 (0 : Int)).bind ret))
def s0c (ret : Int → Option β) (x0 : List D_api_Value) (x1 : Int) : Option β := (bif (decide (x1 < (x0.length : Int))) then (bif ((decide ((0 : Int) ≤ x1)) && (decide (x1 < (x0.length : Int)))) then ((g22 (elem T_api_Value x0 x1).1 (elem T_api_Value x0 x1).2.1 (elem T_api_Value x0 x1).2.2.1 (elem T_api_Value x0 x1).2.2.2.1).bind fun r0 => (bif (r0 == (0 : Int)) then (ret ((0 : Int))) else ((s0 x0 (IntKind.wrap .i64 (x1 + (1 : Int)))).bind ret))) else none) else (ret ((1 : Int))))
variable {g22} {s0}
theorem ev : EvA (env g22 s0) [] [0] e (A (c s0 some)) := fun x y => Eq.trans (b := (A (c s0 fun r => some (e r))).G x y) (by kernel_rfl) (by simp only [A, c, bo, so, oa, os, on, ofs])
theorem s0_ev : EvA (env g22 s0) [4, 1, 0, 1, 1] [0, 3] e (A_0 (s0c g22 s0 some)) := fun x y => Eq.trans (b := (A_0 (s0c g22 s0 fun r => some (e r))).G x y) (by kernel_rfl) (by simp only [A_0, s0c, bo, so, oa, os, on, ofs])
end
def s0 : Nat → S0 Int
 | 0, _, _ => none
 | k + 1, x0, x1 => s0c (transomlaw04_Few.f k) (s0 k) some x0 x1
def f (k : Nat) (a0 : List D_api_Value) : Option Int := c (s0 k) some a0
noncomputable abbrev E (k : Nat) : FEnv := env (transomlaw04_Few.f k) (s0 k)
theorem hE (k : Nat) : EnvOK (E k).toEnv := ctsOK (Lc (transomlaw04_Few.ok k) L0)
theorem sk : ∀ k, ∀ s ∈ [sg0 (s0 k)], SegB prog f8 0 s
 | 0 => (Lc (sn (Lc (fun _ _ => rfl) L0)) L0)
 | k + 1 => (Lc (sg_ok (hE k) (sk k) (Lc s0_ev L0)) L0)
theorem ok (k : Nat) : CtOK prog 8 (ct (f k)) := fn_ok func8 rfl (by decide) (hE k) (sk k) (Lc ev L0)
end transomlaw05_Few
/-! ### schema_number: function 71 (by hand) -/
def schema_number.ct : Ct where
 nin := 0
 mv := []
 F := fun tvs blks {β} K => match tvs, blks with
  | [.v (.one (.raw .nilIface))], [] => K ⟨.v (.one (.d (.int .i64) (0 : Int))), []⟩
  | [.v (.one (.ifc 140 true (.pair (.int .i64) .unit) x))], [] => K ⟨.v (.one (.d (.int .i64) x.1)), []⟩
  | _, _ => none
 legit := fun tvs blks K r h => by
  split at h
  ·exact ⟨_, rfl, h⟩
  ·exact ⟨_, rfl, h⟩
  ·simp at h
/-! errors.As at the one target that the program has: a variable of type bad (after the guide's worked example 'toyas') -/
section
open Go.RowKit Go.Extern.Stop Go.Stop Go.Extern
abbrev schema_number.rt (n : Nat) : Value := .pointer (some ⟨2, n, none⟩)
theorem schema_number.as_nil (t : Value) (w : World) : Calls Go.Proofs.Tryz.prog 97 #[.nilIface, t] w fun e w' => e = .returned (.bool false) ∧ w' = w := by
 go_enter Go.Proofs.Tryz.func97, Go.Proofs.Tryz.ntmps97
 go_wp2
 go_ret
 exact ⟨rfl, rfl⟩
theorem schema_number.valueOfP (t : Addr) (w : World) : (ReflectliteValue.unpack (.iface 142 (.pointer (some t)))).run Go.Proofs.Tryz.prog w
  = .ok (.agg #[schema_number.rt 142, .pointer (some ⟨w.heap.size, 0, none⟩), .int .u64 150]) (w.alloc (.cells #[.pointer (some t)] 142)) := by kernel_rfl
theorem schema_number.typeP (a : Addr) (w : World) : (ReflectliteValue.methodAny (ReflectliteValue.valueError "reflectlite.Value.Type" 0) (fun t _ _ _ => ReflectliteType.toType t) #[.agg #[schema_number.rt 142, .pointer (some a), .int .u64 150]]).run Go.Proofs.Tryz.prog w
  = .ok (.iface 178 (.agg #[schema_number.rt 142])) w := by kernel_rfl
theorem schema_number.methodKind (h : Value) (w : World) : (Go.method 333 178 (.agg #[h]) "Kind").run Go.Proofs.Tryz.prog w = .ok (148, h) w := by kernel_rfl
theorem schema_number.kindP (w : World) : ((ReflectliteType.abiMethod fun t => (fun a : Nat => Value.int IntKind.u8 (a : Int)) <$> Rtype.kind t) #[schema_number.rt 142]).run Go.Proofs.Tryz.prog w = .ok (.int .u8 22) w := by kernel_rfl
theorem schema_number.kindB (w : World) : ((ReflectliteType.abiMethod fun t => (fun a : Nat => Value.int IntKind.u8 (a : Int)) <$> Rtype.kind t) #[schema_number.rt 140]).run Go.Proofs.Tryz.prog w = .ok (.int .u8 25) w := by kernel_rfl
theorem schema_number.rlm (z : Sem Value) (f : TypeId → Addr → Nat → Nat → Sem Value) (v : Value) :
  ReflectliteValue.method z f #[v] = (do match ← ReflectliteValue.parts v with | none => z | some (t, a, fl) => f t a fl (fl % 32)) := rfl
theorem schema_number.partsP (a : Addr) (w : World) : (ReflectliteValue.parts (.agg #[schema_number.rt 142, .pointer (some a), .int .u64 150])).run Go.Proofs.Tryz.prog w = .ok (some (142, a, 150)) w := by kernel_rfl
theorem schema_number.isNilP (a p : Addr) (W : World) (ha : W.cell? a = some (.pointer (some p))) :
  (ReflectliteValue.method (ReflectliteValue.valueError "reflectlite.Value.IsNil" 0) ReflectliteValue.isNil #[.agg #[schema_number.rt 142, .pointer (some a), .int .u64 150]]).run Go.Proofs.Tryz.prog W = .ok (.bool false) W := by
 rw [schema_number.rlm]
 simp only [Sem.run_bind, schema_number.partsP, Result.andThen]
 simp [ReflectliteValue.isNil, loadVar, isAgg, underlying, Go.Proofs.Tryz.underlying142, ha, Result.andThen]
theorem schema_number.methodElem (h : Value) (w : World) : (Go.method 333 178 (.agg #[h]) "Elem").run Go.Proofs.Tryz.prog w = .ok (175, .agg #[h]) w := by kernel_rfl
theorem schema_number.methodImplements (h : Value) (w : World) : (Go.method 333 178 (.agg #[h]) "Implements").run Go.Proofs.Tryz.prog w = .ok (176, .agg #[h]) w := by kernel_rfl
theorem schema_number.methodAssignableTo (h : Value) (w : World) : (Go.method 333 178 (.agg #[h]) "AssignableTo").run Go.Proofs.Tryz.prog w = .ok (173, .agg #[h]) w := by kernel_rfl
theorem schema_number.elemP (w : World) : (ReflectliteType.method ReflectliteType.elem #[.agg #[schema_number.rt 142]]).run Go.Proofs.Tryz.prog w = .ok (.iface 178 (.agg #[schema_number.rt 140])) w := by kernel_rfl
theorem schema_number.implementsB (w : World) : (ReflectliteType.relation "Implements" ReflectliteType.implements_ #[.agg #[schema_number.rt 140], .iface 178 (.agg #[schema_number.rt 113])]).run Go.Proofs.Tryz.prog w = .ok (.bool true) w := by kernel_rfl
theorem schema_number.typeOfB (v : Value) (w : World) : (ReflectliteType.typeOf #[.iface 140 v]).run Go.Proofs.Tryz.prog w = .ok (.iface 178 (.agg #[schema_number.rt 140])) w := by kernel_rfl
theorem schema_number.assignableB (w : World) : (ReflectliteType.relation "AssignableTo" ReflectliteType.assignableTo #[.agg #[schema_number.rt 140], .iface 178 (.agg #[schema_number.rt 140])]).run Go.Proofs.Tryz.prog w = .ok (.bool true) w := by kernel_rfl
theorem schema_number.valueOfB (n : Int) (w : World) : (ReflectliteValue.unpack (.iface 140 (.agg #[.int .i64 n]))).run Go.Proofs.Tryz.prog w
  = .ok (.agg #[schema_number.rt 140, .pointer (some ⟨w.heap.size, 0, none⟩), .int .u64 153]) (w.alloc (.cells #[.int .i64 n] 140)) := by kernel_rfl
theorem schema_number.elemOfP (w : World) : (Rtype.elem? 142).run Go.Proofs.Tryz.prog w = .ok (some 140) w := by kernel_rfl
theorem schema_number.mkB (p : Addr) (w : World) : (ReflectliteValue.mk 140 p ReflectliteValue.flagAddr).run Go.Proofs.Tryz.prog w = .ok (.agg #[schema_number.rt 140, .pointer (some p), .int .u64 409]) w := by kernel_rfl
theorem schema_number.elemVP (a p : Addr) (W : World) (ha : W.cell? a = some (.pointer (some p))) :
  (ReflectliteValue.method (ReflectliteValue.valueError "reflectlite.Value.Elem" 0) ReflectliteValue.elem #[.agg #[schema_number.rt 142, .pointer (some a), .int .u64 150]]).run Go.Proofs.Tryz.prog W
   = .ok (.agg #[schema_number.rt 140, .pointer (some p), .int .u64 409]) W := by
 rw [schema_number.rlm]
 simp only [Sem.run_bind, schema_number.partsP, Result.andThen]
 simp [ReflectliteValue.elem, loadVar, isAgg, underlying, Go.Proofs.Tryz.underlying142, ha, Result.andThen, schema_number.elemOfP, schema_number.mkB]
theorem schema_number.rls (v x : Value) : ReflectliteValue.set #[v, x] = (do
  let (some (dst, a, fl), some (src, b, _)) := (← ReflectliteValue.parts v, ← ReflectliteValue.parts x)
   | unsupported (.noEntry "extern/(internal/reflectlite.Value).Set.zeroValue")
  if fl / ReflectliteValue.flagAddr % 2 == 0 then unsupported (.noEntry "extern/(internal/reflectlite.Value).Set.unaddressable")
  let val ← loadVar src b
  if ← Rtype.directlyAssignable dst src then storeVar dst a val
  else if ← Rtype.implements dst src then
   if (← Rtype.kind src) == 20 then
    match val with
    | .nilIface => unsupported (.noEntry "extern/reflectlite: a nil value of one interface type handed on as a value of another")
    | _ => storeVar dst a val
   else storeVar dst a (.iface src val)
  else panicString ("reflectlite.Set: value of type " ++ (← Rtype.spelt src) ++ " is not assignable to type " ++ (← Rtype.spelt dst))
  pure (.tuple #[])) := rfl
theorem schema_number.partsBa (a : Addr) (w : World) : (ReflectliteValue.parts (.agg #[schema_number.rt 140, .pointer (some a), .int .u64 409])).run Go.Proofs.Tryz.prog w = .ok (some (140, a, 409)) w := by kernel_rfl
theorem schema_number.partsB (a : Addr) (w : World) : (ReflectliteValue.parts (.agg #[schema_number.rt 140, .pointer (some a), .int .u64 153])).run Go.Proofs.Tryz.prog w = .ok (some (140, a, 153)) w := by kernel_rfl
theorem schema_number.directB (w : World) : (Rtype.directlyAssignable 140 140).run Go.Proofs.Tryz.prog w = .ok true w := by kernel_rfl
theorem schema_number.sizeB (w : World) : (sizeOf 140).run Go.Proofs.Tryz.prog w = .ok 1 w := by kernel_rfl
theorem schema_number.setB (tb bb : Nat) (n : Int) (old : Value) (W : World) (hb : W.cell? ⟨bb, 0, none⟩ = some (.int .i64 n)) (ht : W.cell? ⟨tb, 0, none⟩ = some old) (hf : W.frozen? ⟨tb, 0, none⟩ = false) :
  (ReflectliteValue.set #[.agg #[schema_number.rt 140, .pointer (some ⟨tb, 0, none⟩), .int .u64 409], .agg #[schema_number.rt 140, .pointer (some ⟨bb, 0, none⟩), .int .u64 153]]).run Go.Proofs.Tryz.prog W
   = .ok (.tuple #[]) (W.setCell ⟨tb, 0, none⟩ (.int .i64 n)) := by
 rw [schema_number.rls]
 have hl := run_loadCells_list (P := Go.Proofs.Tryz.prog) W ⟨bb, 0, none⟩ [.int .i64 n] (fun j v hj => by
  match j with
  | 0 => simp at hj; subst hj; simpa [Addr.add] using hb
  | j + 1 => simp at hj)
 simp only [List.length_singleton] at hl
 simp only [Sem.run_bind, schema_number.partsBa, schema_number.partsB, Result.andThen]
 simp [ReflectliteValue.flagAddr, loadVar, isAgg, underlying, Go.Proofs.Tryz.underlying140, hl, schema_number.sizeB, Result.andThen, schema_number.directB, storeVar, Value.cells, storeCells, Addr.add]
 rw [run_store Go.Proofs.Tryz.prog W ⟨tb, 0, none⟩ _ _ (by rfl)]
 simp [ht, hf]
set_option maxHeartbeats 4000000 in
theorem schema_number.as_hit (n : Int) (tb : Nat) (old : Value) (w : World) (hg : w.cell? ⟨0, 0, none⟩ = some (.iface 178 (.agg #[schema_number.rt 113]))) (ht0 : w.cell? ⟨tb, 0, none⟩ = some old) (hf0 : w.frozen? ⟨tb, 0, none⟩ = false) :
  Calls Go.Proofs.Tryz.prog 97 #[.iface 140 (.agg #[.int .i64 n]), .iface 142 (.pointer (some ⟨tb, 0, none⟩))] w fun ev w' => ev = .returned (.bool true) ∧ w' = ((((w.alloc (.cells #[.pointer (some ⟨tb, 0, none⟩)] 142)).alloc (.cells #[schema_number.rt 142, .pointer (some ⟨w.heap.size, 0, none⟩), .int .u64 150] 162)).alloc (.cells #[schema_number.rt 142, .pointer (some ⟨w.heap.size, 0, none⟩), .int .u64 150] 162)).alloc (.cells #[.int .i64 n] 140)).setCell ⟨tb, 0, none⟩ (.int .i64 n) := by
 have h6 := @run_callFunc_extern Go.Proofs.Tryz.prog 115 _ (fun args => ReflectliteValue.unpack (args.getD 0 (.tuple #[]))) Go.Proofs.Tryz.func115 (by kernel_rfl) (by kernel_rfl) (by kernel_rfl) (by kernel_rfl)
 have h7 := @run_callFunc_extern Go.Proofs.Tryz.prog 116 _ (ReflectliteValue.methodAny (ReflectliteValue.valueError "reflectlite.Value.Type" 0) (fun t _ _ _ => ReflectliteType.toType t)) Go.Proofs.Tryz.func116 (by kernel_rfl) (by kernel_rfl) (by kernel_rfl) (by kernel_rfl)
 have h8 := @run_callFunc_extern Go.Proofs.Tryz.prog 117 _ (ReflectliteValue.method (ReflectliteValue.valueError "reflectlite.Value.IsNil" 0) ReflectliteValue.isNil) Go.Proofs.Tryz.func117 (by kernel_rfl) (by kernel_rfl) (by kernel_rfl) (by kernel_rfl)
 have h27 := @run_callFunc_extern Go.Proofs.Tryz.prog 148 _ (ReflectliteType.abiMethod fun t => do pure (.int .u8 (← Rtype.kind t))) Go.Proofs.Tryz.func148 (by kernel_rfl) (by kernel_rfl) (by kernel_rfl) (by kernel_rfl)
 have h37 := @run_callFunc_extern Go.Proofs.Tryz.prog 175 _ (ReflectliteType.method ReflectliteType.elem) Go.Proofs.Tryz.func175 (by kernel_rfl) (by kernel_rfl) (by kernel_rfl) (by kernel_rfl)
 have h38 := @run_callFunc_extern Go.Proofs.Tryz.prog 176 _ (ReflectliteType.relation "Implements" ReflectliteType.implements_) Go.Proofs.Tryz.func176 (by kernel_rfl) (by kernel_rfl) (by kernel_rfl) (by kernel_rfl)
 have h10 := @run_callFunc_extern Go.Proofs.Tryz.prog 126 _ ReflectliteType.typeOf Go.Proofs.Tryz.func126 (by kernel_rfl) (by kernel_rfl) (by kernel_rfl) (by kernel_rfl)
 have h35 := @run_callFunc_extern Go.Proofs.Tryz.prog 173 _ (ReflectliteType.relation "AssignableTo" ReflectliteType.assignableTo) Go.Proofs.Tryz.func173 (by kernel_rfl) (by kernel_rfl) (by kernel_rfl) (by kernel_rfl)
 have h11 := @run_callFunc_extern Go.Proofs.Tryz.prog 127 _ (ReflectliteValue.method (ReflectliteValue.valueError "reflectlite.Value.Elem" 0) ReflectliteValue.elem) Go.Proofs.Tryz.func127 (by kernel_rfl) (by kernel_rfl) (by kernel_rfl) (by kernel_rfl)
 have h12 := @run_callFunc_extern Go.Proofs.Tryz.prog 128 _ ReflectliteValue.set Go.Proofs.Tryz.func128 (by kernel_rfl) (by kernel_rfl) (by kernel_rfl) (by kernel_rfl)
 have tO := schema_number.typeOfB
 have mA := schema_number.methodAssignableTo
 have a25 := schema_number.assignableB
 have v25 := schema_number.valueOfB
 have f6 := schema_number.valueOfP
 have f7 := schema_number.typeP
 have mK := schema_number.methodKind
 have mE := schema_number.methodElem
 have mI := schema_number.methodImplements
 have k27 := schema_number.kindP
 have k25 := schema_number.kindB
 have e27 := schema_number.elemP
 have i25 := schema_number.implementsB
 have n8 := schema_number.isNilP ⟨w.heap.size, 0, none⟩ ⟨tb, 0, none⟩ ((w.alloc (.cells #[.pointer (some ⟨tb, 0, none⟩)] 142)).alloc (.cells #[schema_number.rt 142, .pointer (some ⟨w.heap.size, 0, none⟩), .int .u64 150] 162)) (by simp)
 have hlt : 0 < w.heap.size := by
  rcases Nat.lt_or_ge 0 w.heap.size with h | h
  ·exact h
  ·simp [World.cell?, Array.getElem?_eq_none h] at hg
 have hg2 : ((w.alloc (.cells #[.pointer (some ⟨tb, 0, none⟩)] 142)).alloc (.cells #[schema_number.rt 142, .pointer (some ⟨w.heap.size, 0, none⟩), .int .u64 150] 162)).cell? ⟨0, 0, none⟩ = some (.iface 178 (.agg #[schema_number.rt 113])) := by
  rw [World.cell?_alloc_lt _ _ ⟨0, 0, none⟩ (by first | (simp; done) | (simp; omega)), World.cell?_alloc_lt _ _ ⟨0, 0, none⟩ hlt]; exact hg
 have htl : tb < w.heap.size := by
  rcases Nat.lt_or_ge tb w.heap.size with h | h
  ·exact h
  ·simp [World.cell?, Array.getElem?_eq_none h] at ht0
 have el := schema_number.elemVP ⟨w.heap.size, 0, none⟩ ⟨tb, 0, none⟩ (((w.alloc (.cells #[.pointer (some ⟨tb, 0, none⟩)] 142)).alloc (.cells #[schema_number.rt 142, .pointer (some ⟨w.heap.size, 0, none⟩), .int .u64 150] 162)).alloc (.cells #[schema_number.rt 142, .pointer (some ⟨w.heap.size, 0, none⟩), .int .u64 150] 162)) (by rw [World.cell?_alloc_lt _ _ ⟨w.heap.size, 0, none⟩ (by simp; omega)]; simp)
 have st := schema_number.setB tb (w.heap.size + 1 + 1 + 1) n old ((((w.alloc (.cells #[.pointer (some ⟨tb, 0, none⟩)] 142)).alloc (.cells #[schema_number.rt 142, .pointer (some ⟨w.heap.size, 0, none⟩), .int .u64 150] 162)).alloc (.cells #[schema_number.rt 142, .pointer (some ⟨w.heap.size, 0, none⟩), .int .u64 150] 162)).alloc (.cells #[.int .i64 n] 140))
  (by rw [World.cell?_alloc_at _ _ _ _ (by simp)]; rfl)
  (by rw [World.cell?_alloc_lt _ _ ⟨tb, 0, none⟩ (by simp; omega), World.cell?_alloc_lt _ _ ⟨tb, 0, none⟩ (by simp; omega), World.cell?_alloc_lt _ _ ⟨tb, 0, none⟩ (by simp; omega), World.cell?_alloc_lt _ _ ⟨tb, 0, none⟩ htl]; exact ht0)
  (by rw [World.frozen?_alloc_old _ _ ⟨tb, 0, none⟩ (by simp; omega), World.frozen?_alloc_old _ _ ⟨tb, 0, none⟩ (by simp; omega), World.frozen?_alloc_old _ _ ⟨tb, 0, none⟩ (by simp; omega), World.frozen?_alloc_old _ _ ⟨tb, 0, none⟩ (Nat.ne_of_lt htl)]; exact hf0)
 go_enter Go.Proofs.Tryz.func97, Go.Proofs.Tryz.ntmps97
 go_wp2
 refine wp_loop_rounds 1 ?_
 rw [rounds_succ]
 go_wp2
 go_ret
 exact ⟨rfl, rfl⟩
theorem schema_number.num_nil (w : World) : Calls Go.Proofs.Tryz.prog 71 #[.nilIface] w fun e w' => e = .returned (.int .i64 0) ∧ Below w.heap.size w w' := by
 go_enter Go.Proofs.Tryz.func71, Go.Proofs.Tryz.ntmps71
 go_wp2_with (first | (go_at_call 97; refine (schema_number.as_nil _ _).mono ?_; rintro e w' ⟨rfl, rfl⟩))
 go_ret
 exact ⟨rfl, (Below.refl _ _).alloc (Nat.le_refl _) _⟩
set_option maxHeartbeats 4000000 in
theorem schema_number.num_hit (n : Int) (w : World) (hg : w.cell? ⟨0, 0, none⟩ = some (.iface 178 (.agg #[schema_number.rt 113]))) : Calls Go.Proofs.Tryz.prog 71 #[.iface 140 (.agg #[.int .i64 n])] w fun e w' => e = .returned (.int .i64 n) ∧ Below w.heap.size w w' := by
 have hlt : 0 < w.heap.size := by
  rcases Nat.lt_or_ge 0 w.heap.size with h | h
  ·exact h
  ·simp [World.cell?, Array.getElem?_eq_none h] at hg
 have hgA : (w.alloc (.cells #[.int .i64 0] 140)).cell? ⟨0, 0, none⟩ = some (.iface 178 (.agg #[schema_number.rt 113])) := by
  rw [World.cell?_alloc_lt _ _ ⟨0, 0, none⟩ hlt]; exact hg
 have htA : (w.alloc (.cells #[.int .i64 0] 140)).cell? ⟨w.heap.size, 0, none⟩ = some (.int .i64 0) := by simp
 have hfA : (w.alloc (.cells #[.int .i64 0] 140)).frozen? ⟨w.heap.size, 0, none⟩ = false := by simp
 go_enter Go.Proofs.Tryz.func71, Go.Proofs.Tryz.ntmps71
 go_wp2_with (first | (go_at_call 97; refine (schema_number.as_hit n _ _ _ hgA htA hfA).mono ?_; rintro e w' ⟨rfl, rfl⟩))
 go_ret
 refine ⟨rfl, ?_⟩
 try refine Below.setCell ?_ (Nat.le_refl _) _
 refine Below.alloc (Below.alloc (Below.alloc (Below.alloc (Below.alloc (Below.refl _ _) (Nat.le_refl _) _) ?_ _) ?_ _) ?_ _) ?_ _ <;> (simp; try omega)
end
theorem schema_number.ok (k : Nat) : CtOK Go.Proofs.Tryz.prog 71 schema_number.ct := by
 have enters : ∀ (args : Array Value) (w : World), (callFunc 71 args).run Go.Proofs.Tryz.prog w = .ok (.enter 71 args) w := fun args w => Go.Proofs.enters_of Go.Proofs.Tryz.func71 (by kernel_rfl) rfl args w
 intro tvs blks res hF w S ρ H vals hm hv
 have fin : ∀ (n : Int), res = ⟨.v (.one (.d (.int .i64) n)), []⟩ → blks = [] → Calls Go.Proofs.Tryz.prog 71 vals.toArray w (fun e w' => e = .returned (.int .i64 n) ∧ RowKit.Below w.heap.size w w') →
   CallsTo Go.Proofs.Tryz.prog 71 vals.toArray w fun e w' => ∃ v S' ρ' H', e = .returned v ∧ Mem (pkgCx w S ρ H blks schema_number.ct.nin) w' S' ρ' H' (fun n => res.blks[n]?) ∧ RepTV w' S' ρ' res.tv v := by
  rintro n rfl rfl hc
  left
  refine ⟨enters _ _, hc.mono fun e w' ⟨h1, h2⟩ => ⟨_, S, ρ, H, h1, ?_, rfl⟩⟩
  have : (fun n => ([] : List (Option Blk))[n]?) = live [] := by funext n; simp [live]
  rw [this]; exact hm.below h2
 simp only [schema_number.ct] at hF
 split at hF
 ·simp only [Option.some.injEq] at hF
  obtain ⟨v0, m0, rfl, h0, hv⟩ := All2.cons_left hv
  cases All2.nil_left hv
  obtain ⟨rfl, _⟩ := h0
  exact fin 0 hF.symm rfl (schema_number.num_nil w)
 ·rename_i x
  simp only [Option.some.injEq] at hF
  obtain ⟨v0, m0, rfl, h0, hv⟩ := All2.cons_left hv
  cases All2.nil_left hv
  obtain ⟨us, u, rfl, ⟨v1, v2, rfl, h1, h2⟩, rfl⟩ := h0
  simp only [Rd] at h1 h2
  subst h1; subst h2
  obtain ⟨_, hg⟩ := hm.gl _ (List.mem_singleton.2 rfl)
  exact fin x.1 hF.symm rfl (schema_number.num_hit x.1 w hg)
 ·simp at hF


namespace schema_words
def e (r : (List ByteArray)) : Res := ⟨.v (.one (.d (.sl .str) r)), []⟩
abbrev T (δ : Type) : Type := (List D_api_Col) → Option δ
abbrev A {δ : Type} (g : T δ) : Arm δ := ⟨[.d (.sl T_api_Col)], [], fun x y => g x.1⟩
abbrev G : Type := T (List ByteArray)
def ct (g : G) : Ct := mkCt 0 [] [A g] e
abbrev S0 (δ : Type) : Type := (List D_api_Col) → Int → Int → (List ByteArray) → Option δ
abbrev A_0 {δ : Type} (s : S0 δ) : Arm δ := ⟨[.k (.own 0), .d (.sl T_api_Col), .d (.int .i64), .d (.int .i64)], [.own .str true], fun x y => s x.2.1 x.2.2.1 x.2.2.2.1 y.1⟩
def sg0 (s : S0 (List ByteArray)) : Seg := mkSg [4, 1, 0, 1, 1] [] [3, 9, 10, 11] [A_0 s] e
section
variable {β : Type} (s0 : S0 (List ByteArray))
noncomputable abbrev env : FEnv := mkEnv prog f50 [] 0 [] [sg0 s0]
def c (ret : (List ByteArray) → Option β) (a0 : List D_api_Col) : Option β := (bif ((true && (decide ((a0.length : Int) ≤ (a0.length : Int)))) && (decide (((a0.length : Int) * (16 : Int)) ≤ (35184372088832 : Int)))) then ((s0 a0 (a0.length : Int) (0 : Int) (List.replicate (Int.toNat (a0.length : Int)) (ByteArray.mk (List.toArray [])))).bind ret) else none)
def s0c (ret : (List ByteArray) → Option β) (x0 : List D_api_Col) (x1 x2 : Int) (x3 : List ByteArray) : Option β := (bif (decide (x2 < x1)) then (bif ((decide ((0 : Int) ≤ x2)) && (decide (x2 < (x0.length : Int)))) then (bif ((decide ((0 : Int) ≤ x2)) && (decide (x2 < (x3.length : Int)))) then ((s0 x0 x1 (IntKind.wrap .i64 (x2 + (1 : Int))) (List.set x3 (Int.toNat x2) (elem T_api_Col x0 x2).1)).bind ret) else none) else none) else (ret (x3)))
variable {s0}
theorem ev : EvA (env s0) [] [0] e (A (c s0 some)) := fun x y => Eq.trans (b := (A (c s0 fun r => some (e r))).G x y) (by kernel_rfl) (by simp only [A, c, bo, so, oa, os, on, ofs])
theorem s0_ev : EvA (env s0) [4, 1, 0, 1, 1] [3, 9, 10, 11] e (A_0 (s0c s0 some)) := fun x y => Eq.trans (b := (A_0 (s0c s0 fun r => some (e r))).G x y) (by kernel_rfl) (by simp only [A_0, s0c, bo, so, oa, os, on, ofs])
end
def s0 : Nat → S0 (List ByteArray)
 | 0, _, _, _, _ => none
 | k + 1, x0, x1, x2, x3 => s0c (s0 k) some x0 x1 x2 x3
def f (k : Nat) (a0 : List D_api_Col) : Option (List ByteArray) := c (s0 k) some a0
noncomputable abbrev E (k : Nat) : FEnv := env  (s0 k)
theorem hE (k : Nat) : EnvOK (E k).toEnv := ctsOK L0
theorem sk : ∀ k, ∀ s ∈ [sg0 (s0 k)], SegB prog f50 0 s
 | 0 => (Lc (sn (Lc (fun _ _ => rfl) L0)) L0)
 | k + 1 => (Lc (sg_ok (hE k) (sk k) (Lc s0_ev L0)) L0)
theorem ok (k : Nat) : CtOK prog 50 (ct (f k)) := fn_ok func50 rfl (by decide) (hE k) (sk k) (Lc ev L0)
end schema_words
end Go.Proofs.YtijjlpgcpdapnaaGreatDoor.Aev
