/- By a program of this session (AEV): functions of the program as plain functions, and that the machine does what they say. -/
import Derived.Test.YthaannpgcbpjkaaTys
import Derived.Test.YthaannpgcbpjkaaProg
import Derived.Laws.Externs
import Derived.Lib.Bytealg
namespace Go.Proofs.Ythaannpgcbpjkaa.Aev
set_option linter.unusedVariables false
set_option linter.unusedSimpArgs false
set_option maxRecDepth 100000
set_option maxHeartbeats 4000000
open Go Go.Proofs.Try
namespace transomlaw04_Few
def e (r : Int) : Res := ⟨.v (.one (.d (.int .i64) r)), []⟩
abbrev T (δ : Type) : Type := Int → Int → Int → ByteArray → Option δ
abbrev A {δ : Type} (g : T δ) : Arm δ := ⟨[.s T_api_Value], [], fun x y => g x.1.1.1 x.1.1.2.1 x.1.1.2.2.1 x.1.1.2.2.2.1⟩
abbrev G : Type := T Int
def ct (g : G) : Ct := mkCt 0 [] [A g] e
section
variable {β : Type} 
noncomputable abbrev env : FEnv := mkEnv prog f37 [] 0 [] []
def c (ret : Int → Option β) (a0 : Int) (a1 : Int) (a2 : Int) (a3 : ByteArray) : Option β := (bif (decide ((a3.size : Int) > (2000 : Int))) then (ret ((0 : Int))) else (ret ((1 : Int))))
theorem ev : EvA (env) [] [0] e (A (c some)) := fun x y => Eq.trans (b := (A (c fun r => some (e r))).G x y) (by kernel_rfl) (by simp only [A, c, bif_bind, sum_bind, oa, os, on, ofs])
end
def f (k : Nat) (a0 : Int) (a1 : Int) (a2 : Int) (a3 : ByteArray) : Option Int := c  some a0 a1 a2 a3
noncomputable abbrev E (k : Nat) : FEnv := env  
theorem hE (k : Nat) : EnvOK (E k).toEnv := ctsOK L0
theorem ok (k : Nat) : CtOK prog 37 (ct (f k)) := fn_ok func37 rfl (by decide) (hE k) L0 (Lc ev L0)
end transomlaw04_Few
namespace transomlaw05_Few
def e (r : Int) : Res := ⟨.v (.one (.d (.int .i64) r)), []⟩
abbrev T (δ : Type) : Type := (List D_api_Value) → Option δ
abbrev A {δ : Type} (g : T δ) : Arm δ := ⟨[.d (.sl T_api_Value)], [], fun x y => g x.1⟩
abbrev G : Type := T Int
def ct (g : G) : Ct := mkCt 0 [] [A g] e
abbrev S0 (δ : Type) : Type := (List D_api_Value) → Int → Option δ
abbrev A_0 {δ : Type} (s : S0 δ) : Arm δ := ⟨[.d (.sl T_api_Value), .d (.int .i64)], [], fun x y => s x.1 x.2.1⟩
def sg0 (s : S0 Int) : Seg := mkSg [4, 1, 0, 1, 1] [] [0, 3] [A_0 s] e
section
variable {β : Type} (g37 : transomlaw04_Few.G) (s0 : S0 Int)
noncomputable abbrev env : FEnv := mkEnv prog f21 [(37, transomlaw04_Few.ct g37)] 0 [] [sg0 s0]
def c (ret : Int → Option β) (a0 : List D_api_Value) : Option β := (bif (decide ((a0.length : Int) > (30 : Int))) then (ret ((0 : Int))) else ((s0 a0 (0 : Int)).bind ret))
def s0c (ret : Int → Option β) (x0 : List D_api_Value) (x1 : Int) : Option β := (bif (decide (x1 < (x0.length : Int))) then (bif ((decide ((0 : Int) ≤ x1)) && (decide (x1 < (x0.length : Int)))) then ((g37 (elem T_api_Value x0 x1).1 (elem T_api_Value x0 x1).2.1 (elem T_api_Value x0 x1).2.2.1 (elem T_api_Value x0 x1).2.2.2.1).bind fun r0 => (bif (r0 == (0 : Int)) then (ret ((0 : Int))) else ((s0 x0 (IntKind.wrap .i64 (x1 + (1 : Int)))).bind ret))) else none) else (ret ((1 : Int))))
variable {g37} {s0}
theorem ev : EvA (env g37 s0) [] [0] e (A (c s0 some)) := fun x y => Eq.trans (b := (A (c s0 fun r => some (e r))).G x y) (by kernel_rfl) (by simp only [A, c, bif_bind, sum_bind, oa, os, on, ofs])
theorem s0_ev : EvA (env g37 s0) [4, 1, 0, 1, 1] [0, 3] e (A_0 (s0c g37 s0 some)) := fun x y => Eq.trans (b := (A_0 (s0c g37 s0 fun r => some (e r))).G x y) (by kernel_rfl) (by simp only [A_0, s0c, bif_bind, sum_bind, oa, os, on, ofs])
end
def s0 : Nat → S0 Int
  | 0, _, _ => none
  | k + 1, x0, x1 => s0c (transomlaw04_Few.f k) (s0 k) some x0 x1
def f (k : Nat) (a0 : List D_api_Value) : Option Int := c (s0 k) some a0
noncomputable abbrev E (k : Nat) : FEnv := env (transomlaw04_Few.f k) (s0 k)
theorem hE (k : Nat) : EnvOK (E k).toEnv := ctsOK (Lc (transomlaw04_Few.ok k) L0)
theorem segs_ok : ∀ k, ∀ s ∈ [sg0 (s0 k)], SegB prog f21 0 s
  | 0 => (Lc (sg_none (Lc (fun _ _ => rfl) L0)) L0)
  | k + 1 => (Lc (sg_ok (hE k) (segs_ok k) (Lc s0_ev L0)) L0)
theorem ok (k : Nat) : CtOK prog 21 (ct (f k)) := fn_ok func21 rfl (by decide) (hE k) (segs_ok k) (Lc ev L0)
end transomlaw05_Few
namespace transomlaw08_Few
def e (r : Int) : Res := ⟨.v (.one (.d (.int .i64) r)), []⟩
abbrev T (δ : Type) : Type := (List ByteArray) → Option δ
abbrev A {δ : Type} (g : T δ) : Arm δ := ⟨[.d (.sl .str)], [], fun x y => g x.1⟩
abbrev G : Type := T Int
def ct (g : G) : Ct := mkCt 0 [] [A g] e
abbrev S0 (δ : Type) : Type := (List ByteArray) → Int → Option δ
abbrev A_0 {δ : Type} (s : S0 δ) : Arm δ := ⟨[.d (.sl .str), .d (.int .i64)], [], fun x y => s x.1 x.2.1⟩
def sg0 (s : S0 Int) : Seg := mkSg [4, 1, 0, 1, 1] [] [0, 3] [A_0 s] e
section
variable {β : Type} (s0 : S0 Int)
noncomputable abbrev env : FEnv := mkEnv prog f38 [] 0 [] [sg0 s0]
def c (ret : Int → Option β) (a0 : List ByteArray) : Option β := (bif (decide ((a0.length : Int) > (60 : Int))) then (ret ((0 : Int))) else ((s0 a0 (0 : Int)).bind ret))
def s0c (ret : Int → Option β) (x0 : List ByteArray) (x1 : Int) : Option β := (bif (decide (x1 < (x0.length : Int))) then (bif ((decide ((0 : Int) ≤ x1)) && (decide (x1 < (x0.length : Int)))) then (bif (decide (((ByteArray.size (elem Ty.str x0 x1)) : Int) > (500 : Int))) then (ret ((0 : Int))) else ((s0 x0 (IntKind.wrap .i64 (x1 + (1 : Int)))).bind ret)) else none) else (ret ((1 : Int))))
variable {s0}
theorem ev : EvA (env s0) [] [0] e (A (c s0 some)) := fun x y => Eq.trans (b := (A (c s0 fun r => some (e r))).G x y) (by kernel_rfl) (by simp only [A, c, bif_bind, sum_bind, oa, os, on, ofs])
theorem s0_ev : EvA (env s0) [4, 1, 0, 1, 1] [0, 3] e (A_0 (s0c s0 some)) := fun x y => Eq.trans (b := (A_0 (s0c s0 fun r => some (e r))).G x y) (by kernel_rfl) (by simp only [A_0, s0c, bif_bind, sum_bind, oa, os, on, ofs])
end
def s0 : Nat → S0 Int
  | 0, _, _ => none
  | k + 1, x0, x1 => s0c (s0 k) some x0 x1
def f (k : Nat) (a0 : List ByteArray) : Option Int := c (s0 k) some a0
noncomputable abbrev E (k : Nat) : FEnv := env  (s0 k)
theorem hE (k : Nat) : EnvOK (E k).toEnv := ctsOK L0
theorem segs_ok : ∀ k, ∀ s ∈ [sg0 (s0 k)], SegB prog f38 0 s
  | 0 => (Lc (sg_none (Lc (fun _ _ => rfl) L0)) L0)
  | k + 1 => (Lc (sg_ok (hE k) (segs_ok k) (Lc s0_ev L0)) L0)
theorem ok (k : Nat) : CtOK prog 38 (ct (f k)) := fn_ok func38 rfl (by decide) (hE k) (segs_ok k) (Lc ev L0)
end transomlaw08_Few
namespace transomlaw09_Few
def e (r : Int) : Res := ⟨.v (.one (.d (.int .i64) r)), []⟩
abbrev T (δ : Type) : Type := ByteArray → Int → (List D_api_Col) → Option δ
abbrev A {δ : Type} (g : T δ) : Arm δ := ⟨[.s T_api_Table], [], fun x y => g x.1.1.1 x.1.1.2.1 x.1.1.2.2.1⟩
abbrev G : Type := T Int
def ct (g : G) : Ct := mkCt 0 [] [A g] e
abbrev S0 (δ : Type) : Type := Bool → ByteArray → Int → (List D_api_Col) → Option δ
abbrev A_0 {δ : Type} (s : S0 δ) : Arm δ := ⟨[.k (.ptr 0 0), .d .bool], [.box [.g T_api_Table]], fun x y => s x.2.1 y.1.1.1 y.1.1.2.1 y.1.1.2.2.1⟩
abbrev S1 (δ : Type) : Type := ByteArray → Int → (List D_api_Col) → Option δ
abbrev A_1 {δ : Type} (s : S1 δ) : Arm δ := ⟨[.k (.ptr 0 0)], [.box [.g T_api_Table]], fun x y => s y.1.1.1 y.1.1.2.1 y.1.1.2.2.1⟩
abbrev S2 (δ : Type) : Type := Int → ByteArray → Int → (List D_api_Col) → Option δ
abbrev A_2 {δ : Type} (s : S2 δ) : Arm δ := ⟨[.k (.ptr 0 0), .d (.int .i64)], [.box [.g T_api_Table]], fun x y => s x.2.1 y.1.1.1 y.1.1.2.1 y.1.1.2.2.1⟩
abbrev S3 (δ : Type) : Type := Int → Bool → ByteArray → Int → (List D_api_Col) → Option δ
abbrev A_3 {δ : Type} (s : S3 δ) : Arm δ := ⟨[.k (.ptr 0 0), .d (.int .i64), .d .bool], [.box [.g T_api_Table]], fun x y => s x.2.1 x.2.2.1 y.1.1.1 y.1.1.2.1 y.1.1.2.2.1⟩
abbrev S4 (δ : Type) : Type := Int → ByteArray → Int → (List D_api_Col) → Option δ
abbrev A_4 {δ : Type} (s : S4 δ) : Arm δ := ⟨[.k (.ptr 0 0), .d (.int .i64)], [.box [.g T_api_Table]], fun x y => s x.2.1 y.1.1.1 y.1.1.2.1 y.1.1.2.2.1⟩
def sg0 (s : S0 Int) : Seg := mkSg [1, 0, 1] [] [1, 13] [A_0 s] e
def sg1 (s : S1 Int) : Seg := mkSg [1, 1] [] [1] [A_1 s] e
def sg2 (s : S2 Int) : Seg := mkSg [4, 1, 0, 1, 1] [] [1, 3] [A_2 s] e
def sg3 (s : S3 Int) : Seg := mkSg [1, 4, 0, 1, 5, 4, 1, 0, 1, 1] [] [1, 3, 38] [A_3 s] e
def sg4 (s : S4 Int) : Seg := mkSg [1, 1, 5, 4, 1, 0, 1, 1] [] [1, 3] [A_4 s] e
section
variable {β : Type} (g37 : transomlaw04_Few.G) (s0 : S0 Int) (s1 : S1 Int) (s2 : S2 Int) (s3 : S3 Int) (s4 : S4 Int)
noncomputable abbrev env : FEnv := mkEnv prog f39 [(37, transomlaw04_Few.ct g37)] 0 [] [sg0 s0, sg1 s1, sg2 s2, sg3 s3, sg4 s4]
def c (ret : Int → Option β) (a0 : ByteArray) (a1 : Int) (a2 : List D_api_Col) : Option β := (bif (decide ((a2.length : Int) > (20 : Int))) then ((s0 true a0 a1 a2).bind ret) else ((s0 (decide ((a0.size : Int) > (500 : Int))) a0 a1 a2).bind ret))
def s0c (ret : Int → Option β) (x0 : Bool) (x1 : ByteArray) (x2 : Int) (x3 : List D_api_Col) : Option β := (bif x0 then (ret ((0 : Int))) else ((s1 x1 x2 x3).bind ret))
def s1c (ret : Int → Option β) (x0 : ByteArray) (x1 : Int) (x2 : List D_api_Col) : Option β := ((s2 (0 : Int) x0 x1 x2).bind ret)
def s2c (ret : Int → Option β) (x0 : Int) (x1 : ByteArray) (x2 : Int) (x3 : List D_api_Col) : Option β := (bif (decide (x0 < (x3.length : Int))) then (bif ((decide ((0 : Int) ≤ x0)) && (decide (x0 < (x3.length : Int)))) then (bif (decide (((ByteArray.size (elem T_api_Col x3 x0).1) : Int) > (500 : Int))) then ((s3 x0 true x1 x2 x3).bind ret) else (bif ((decide ((0 : Int) ≤ x0)) && (decide (x0 < (x3.length : Int)))) then ((g37 (elem T_api_Col x3 x0).2.2.2.1.1 (elem T_api_Col x3 x0).2.2.2.1.2.1 (elem T_api_Col x3 x0).2.2.2.1.2.2.1 (elem T_api_Col x3 x0).2.2.2.1.2.2.2.1).bind fun r0 => ((s3 x0 (r0 == (0 : Int)) x1 x2 x3).bind ret)) else none)) else none) else (ret ((1 : Int))))
def s3c (ret : Int → Option β) (x0 : Int) (x1 : Bool) (x2 : ByteArray) (x3 : Int) (x4 : List D_api_Col) : Option β := (bif x1 then (ret ((0 : Int))) else ((s4 x0 x2 x3 x4).bind ret))
def s4c (ret : Int → Option β) (x0 : Int) (x1 : ByteArray) (x2 : Int) (x3 : List D_api_Col) : Option β := ((s2 (IntKind.wrap .i64 (x0 + (1 : Int))) x1 x2 x3).bind ret)
variable {g37} {s0} {s1} {s2} {s3} {s4}
theorem ev : EvA (env g37 s0 s1 s2 s3 s4) [] [0] e (A (c s0 some)) := fun x y => Eq.trans (b := (A (c s0 fun r => some (e r))).G x y) (by kernel_rfl) (by simp only [A, c, bif_bind, sum_bind, oa, os, on, ofs])
theorem s0_ev : EvA (env g37 s0 s1 s2 s3 s4) [1, 0, 1] [1, 13] e (A_0 (s0c s1 some)) := fun x y => Eq.trans (b := (A_0 (s0c s1 fun r => some (e r))).G x y) (by kernel_rfl) (by simp only [A_0, s0c, bif_bind, sum_bind, oa, os, on, ofs])
theorem s1_ev : EvA (env g37 s0 s1 s2 s3 s4) [1, 1] [1] e (A_1 (s1c s2 some)) := fun x y => Eq.trans (b := (A_1 (s1c s2 fun r => some (e r))).G x y) (by kernel_rfl) (by simp only [A_1, s1c, bif_bind, sum_bind, oa, os, on, ofs])
theorem s2_ev : EvA (env g37 s0 s1 s2 s3 s4) [4, 1, 0, 1, 1] [1, 3] e (A_2 (s2c g37 s3 some)) := fun x y => Eq.trans (b := (A_2 (s2c g37 s3 fun r => some (e r))).G x y) (by kernel_rfl) (by simp only [A_2, s2c, bif_bind, sum_bind, oa, os, on, ofs])
theorem s3_ev : EvA (env g37 s0 s1 s2 s3 s4) [1, 4, 0, 1, 5, 4, 1, 0, 1, 1] [1, 3, 38] e (A_3 (s3c s4 some)) := fun x y => Eq.trans (b := (A_3 (s3c s4 fun r => some (e r))).G x y) (by kernel_rfl) (by simp only [A_3, s3c, bif_bind, sum_bind, oa, os, on, ofs])
theorem s4_ev : EvA (env g37 s0 s1 s2 s3 s4) [1, 1, 5, 4, 1, 0, 1, 1] [1, 3] e (A_4 (s4c s2 some)) := fun x y => Eq.trans (b := (A_4 (s4c s2 fun r => some (e r))).G x y) (by kernel_rfl) (by simp only [A_4, s4c, bif_bind, sum_bind, oa, os, on, ofs])
end
mutual
def s0 : Nat → S0 Int
  | 0, _, _, _, _ => none
  | k + 1, x0, x1, x2, x3 => s0c (s1 k) some x0 x1 x2 x3
def s1 : Nat → S1 Int
  | 0, _, _, _ => none
  | k + 1, x0, x1, x2 => s1c (s2 k) some x0 x1 x2
def s2 : Nat → S2 Int
  | 0, _, _, _, _ => none
  | k + 1, x0, x1, x2, x3 => s2c (transomlaw04_Few.f k) (s3 k) some x0 x1 x2 x3
def s3 : Nat → S3 Int
  | 0, _, _, _, _, _ => none
  | k + 1, x0, x1, x2, x3, x4 => s3c (s4 k) some x0 x1 x2 x3 x4
def s4 : Nat → S4 Int
  | 0, _, _, _, _ => none
  | k + 1, x0, x1, x2, x3 => s4c (s2 k) some x0 x1 x2 x3
end
def f (k : Nat) (a0 : ByteArray) (a1 : Int) (a2 : List D_api_Col) : Option Int := c (s0 k) some a0 a1 a2
noncomputable abbrev E (k : Nat) : FEnv := env (transomlaw04_Few.f k) (s0 k) (s1 k) (s2 k) (s3 k) (s4 k)
theorem hE (k : Nat) : EnvOK (E k).toEnv := ctsOK (Lc (transomlaw04_Few.ok k) L0)
theorem segs_ok : ∀ k, ∀ s ∈ [sg0 (s0 k), sg1 (s1 k), sg2 (s2 k), sg3 (s3 k), sg4 (s4 k)], SegB prog f39 0 s
  | 0 => (Lc (sg_none (Lc (fun _ _ => rfl) L0)) (Lc (sg_none (Lc (fun _ _ => rfl) L0)) (Lc (sg_none (Lc (fun _ _ => rfl) L0)) (Lc (sg_none (Lc (fun _ _ => rfl) L0)) (Lc (sg_none (Lc (fun _ _ => rfl) L0)) L0)))))
  | k + 1 => (Lc (sg_ok (hE k) (segs_ok k) (Lc s0_ev L0)) (Lc (sg_ok (hE k) (segs_ok k) (Lc s1_ev L0)) (Lc (sg_ok (hE k) (segs_ok k) (Lc s2_ev L0)) (Lc (sg_ok (hE k) (segs_ok k) (Lc s3_ev L0)) (Lc (sg_ok (hE k) (segs_ok k) (Lc s4_ev L0)) L0)))))
theorem ok (k : Nat) : CtOK prog 39 (ct (f k)) := fn_ok func39 rfl (by decide) (hE k) (segs_ok k) (Lc ev L0)
end transomlaw09_Few
namespace transomlaw10_Few
def e (r : Int) : Res := ⟨.v (.one (.d (.int .i64) r)), []⟩
abbrev T (δ : Type) : Type := D_api_Change → Option δ
abbrev A {δ : Type} (g : T δ) : Arm δ := ⟨[.s T_api_Change], [], fun x y => g x.1.1⟩
abbrev G : Type := T Int
def ct (g : G) : Ct := mkCt 0 [] [A g] e
section
variable {β : Type} (g37 : transomlaw04_Few.G) (g38 : transomlaw08_Few.G) (g39 : transomlaw09_Few.G)
noncomputable abbrev env : FEnv := mkEnv prog f22 [(37, transomlaw04_Few.ct g37), (38, transomlaw08_Few.ct g38), (39, transomlaw09_Few.ct g39)] 0 [] []
def c (ret : Int → Option β) (a0 : D_api_Change) : Option β := ((g38 a0.2.2.2.2.2.2.2.1).bind fun r0 => (bif (r0 == (0 : Int)) then (ret ((0 : Int))) else ((g38 [a0.2.1, a0.2.2.1, a0.2.2.2.1, a0.2.2.2.2.1, a0.2.2.2.2.2.1, a0.2.2.2.2.2.2.2.2.1.1]).bind fun r1 => (bif (r1 == (0 : Int)) then (ret ((0 : Int))) else ((g39 a0.2.2.2.2.2.2.2.2.2.1.1 a0.2.2.2.2.2.2.2.2.2.1.2.1 a0.2.2.2.2.2.2.2.2.2.1.2.2.1).bind fun r2 => (bif (r2 == (0 : Int)) then (ret ((0 : Int))) else ((g37 a0.2.2.2.2.2.2.2.2.1.2.2.2.1.1 a0.2.2.2.2.2.2.2.2.1.2.2.2.1.2.1 a0.2.2.2.2.2.2.2.2.1.2.2.2.1.2.2.1 a0.2.2.2.2.2.2.2.2.1.2.2.2.1.2.2.2.1).bind fun r3 => (bif (r3 == (0 : Int)) then (ret ((0 : Int))) else (ret ((1 : Int)))))))))))
variable {g37} {g38} {g39}
theorem ev : EvA (env g37 g38 g39) [] [0] e (A (c g37 g38 g39 some)) := fun x y => Eq.trans (b := (A (c g37 g38 g39 fun r => some (e r))).G x y) (by kernel_rfl) (by simp only [A, c, bif_bind, sum_bind, oa, os, on, ofs])
end
def f (k : Nat) (a0 : D_api_Change) : Option Int := c (transomlaw04_Few.f k) (transomlaw08_Few.f k) (transomlaw09_Few.f k) some a0
noncomputable abbrev E (k : Nat) : FEnv := env (transomlaw04_Few.f k) (transomlaw08_Few.f k) (transomlaw09_Few.f k) 
theorem hE (k : Nat) : EnvOK (E k).toEnv := ctsOK (Lc (transomlaw04_Few.ok k) (Lc (transomlaw08_Few.ok k) (Lc (transomlaw09_Few.ok k) L0)))
theorem ok (k : Nat) : CtOK prog 22 (ct (f k)) := fn_ok func22 rfl (by decide) (hE k) L0 (Lc ev L0)
end transomlaw10_Few
namespace transomlaw13_FewOp
def e (r : Int) : Res := ⟨.v (.one (.d (.int .i64) r)), []⟩
abbrev T (δ : Type) : Type := D_api_Op → Option δ
abbrev A {δ : Type} (g : T δ) : Arm δ := ⟨[.s T_api_Op], [], fun x y => g x.1.1⟩
abbrev G : Type := T Int
def ct (g : G) : Ct := mkCt 0 [] [A g] e
section
variable {β : Type} (g21 : transomlaw05_Few.G) (g22 : transomlaw10_Few.G)
noncomputable abbrev env : FEnv := mkEnv prog f10 [(21, transomlaw05_Few.ct g21), (22, transomlaw10_Few.ct g22)] 0 [] []
def c (ret : Int → Option β) (a0 : D_api_Op) : Option β := (bif (decide ((a0.2.1.size : Int) > (500 : Int))) then (ret ((0 : Int))) else ((g21 a0.2.2.1).bind fun r0 => (bif (r0 == (0 : Int)) then (ret ((0 : Int))) else ((g21 a0.2.2.2.1).bind fun r1 => (bif (r1 == (0 : Int)) then (ret ((0 : Int))) else ((g21 a0.2.2.2.2.1).bind fun r2 => (bif (r2 == (0 : Int)) then (ret ((0 : Int))) else ((g22 a0.2.2.2.2.2.2.1).bind fun r3 => (bif (r3 == (0 : Int)) then (ret ((0 : Int))) else (ret ((1 : Int))))))))))))
variable {g21} {g22}
theorem ev : EvA (env g21 g22) [] [0] e (A (c g21 g22 some)) := fun x y => Eq.trans (b := (A (c g21 g22 fun r => some (e r))).G x y) (by kernel_rfl) (by simp only [A, c, bif_bind, sum_bind, oa, os, on, ofs])
end
def f (k : Nat) (a0 : D_api_Op) : Option Int := c (transomlaw05_Few.f k) (transomlaw10_Few.f k) some a0
noncomputable abbrev E (k : Nat) : FEnv := env (transomlaw05_Few.f k) (transomlaw10_Few.f k) 
theorem hE (k : Nat) : EnvOK (E k).toEnv := ctsOK (Lc (transomlaw05_Few.ok k) (Lc (transomlaw10_Few.ok k) L0))
theorem ok (k : Nat) : CtOK prog 10 (ct (f k)) := fn_ok func10 rfl (by decide) (hE k) L0 (Lc ev L0)
end transomlaw13_FewOp
namespace transomlaw13_FewOps
def e (r : Int) : Res := ⟨.v (.one (.d (.int .i64) r)), []⟩
abbrev T (δ : Type) : Type := (List D_api_Op) → Int → Option δ
abbrev A {δ : Type} (g : T δ) : Arm δ := ⟨[.d (.sl T_api_Op), .d (.int .i64)], [], fun x y => g x.1 x.2.1⟩
abbrev G : Type := T Int
def ct (g : G) : Ct := mkCt 0 [] [A g] e
abbrev S0 (δ : Type) : Type := (List D_api_Op) → Int → Option δ
abbrev A_0 {δ : Type} (s : S0 δ) : Arm δ := ⟨[.d (.sl T_api_Op), .d (.int .i64)], [], fun x y => s x.1 x.2.1⟩
def sg0 (s : S0 Int) : Seg := mkSg [4, 1, 0, 1, 1] [] [0, 5] [A_0 s] e
section
variable {β : Type} (g10 : transomlaw13_FewOp.G) (s0 : S0 Int)
noncomputable abbrev env : FEnv := mkEnv prog f4 [(10, transomlaw13_FewOp.ct g10)] 0 [] [sg0 s0]
def c (ret : Int → Option β) (a0 : List D_api_Op) (a1 : Int) : Option β := (bif (decide ((a0.length : Int) > a1)) then (ret ((0 : Int))) else ((s0 a0 (0 : Int)).bind ret))
def s0c (ret : Int → Option β) (x0 : List D_api_Op) (x1 : Int) : Option β := (bif (decide (x1 < (x0.length : Int))) then (bif ((decide ((0 : Int) ≤ x1)) && (decide (x1 < (x0.length : Int)))) then ((g10 (elem T_api_Op x0 x1)).bind fun r0 => (bif (r0 == (0 : Int)) then (ret ((0 : Int))) else ((s0 x0 (IntKind.wrap .i64 (x1 + (1 : Int)))).bind ret))) else none) else (ret ((1 : Int))))
variable {g10} {s0}
theorem ev : EvA (env g10 s0) [] [0, 1] e (A (c s0 some)) := fun x y => Eq.trans (b := (A (c s0 fun r => some (e r))).G x y) (by kernel_rfl) (by simp only [A, c, bif_bind, sum_bind, oa, os, on, ofs])
theorem s0_ev : EvA (env g10 s0) [4, 1, 0, 1, 1] [0, 5] e (A_0 (s0c g10 s0 some)) := fun x y => Eq.trans (b := (A_0 (s0c g10 s0 fun r => some (e r))).G x y) (by kernel_rfl) (by simp only [A_0, s0c, bif_bind, sum_bind, oa, os, on, ofs])
end
def s0 : Nat → S0 Int
  | 0, _, _ => none
  | k + 1, x0, x1 => s0c (transomlaw13_FewOp.f k) (s0 k) some x0 x1
def f (k : Nat) (a0 : List D_api_Op) (a1 : Int) : Option Int := c (s0 k) some a0 a1
noncomputable abbrev E (k : Nat) : FEnv := env (transomlaw13_FewOp.f k) (s0 k)
theorem hE (k : Nat) : EnvOK (E k).toEnv := ctsOK (Lc (transomlaw13_FewOp.ok k) L0)
theorem segs_ok : ∀ k, ∀ s ∈ [sg0 (s0 k)], SegB prog f4 0 s
  | 0 => (Lc (sg_none (Lc (fun _ _ => rfl) L0)) L0)
  | k + 1 => (Lc (sg_ok (hE k) (segs_ok k) (Lc s0_ev L0)) L0)
theorem ok (k : Nat) : CtOK prog 4 (ct (f k)) := fn_ok func4 rfl (by decide) (hE k) (segs_ok k) (Lc ev L0)
end transomlaw13_FewOps
namespace convert_Digits
def e (r : ByteArray) : Res := ⟨.v (.one (.d .str r)), []⟩
abbrev T (δ : Type) : Type := Int → Option δ
abbrev A {δ : Type} (g : T δ) : Arm δ := ⟨[.d (.int .i64)], [], fun x y => g x.1⟩
abbrev G : Type := T ByteArray
def ct (g : G) : Ct := mkCt 0 [] [A g] e
abbrev S0 (δ : Type) : Type := Int → Int → Option δ
abbrev A_0 {δ : Type} (s : S0 δ) : Arm δ := ⟨[.d (.int .i64), .d (.int .u64)], [], fun x y => s x.1 x.2.1⟩
abbrev S1 (δ : Type) : Type := Int → Int → Int → (List Int) → Option δ
abbrev A_1 {δ : Type} (s : S1 δ) : Arm δ := ⟨[.d (.int .i64), .d (.int .u64), .k (.arr 0 20), .d (.int .i64)], [.own (.int .u8) true], fun x y => s x.1 x.2.1 x.2.2.2.1 y.1⟩
abbrev S2 (δ : Type) : Type := Int → Int → Int → Bool → (List Int) → Option δ
abbrev A_2 {δ : Type} (s : S2 δ) : Arm δ := ⟨[.d (.int .i64), .d (.int .u64), .k (.arr 0 20), .d (.int .i64), .d .bool], [.own (.int .u8) true], fun x y => s x.1 x.2.1 x.2.2.2.1 x.2.2.2.2.1 y.1⟩
abbrev S3 (δ : Type) : Type := Int → Int → Int → (List Int) → Option δ
abbrev A_3 {δ : Type} (s : S3 δ) : Arm δ := ⟨[.d (.int .i64), .d (.int .u64), .k (.arr 0 20), .d (.int .i64)], [.own (.int .u8) true], fun x y => s x.1 x.2.1 x.2.2.2.1 y.1⟩
def sg0 (s : S0 ByteArray) : Seg := mkSg [1, 1, 1] [] [0, 3] [A_0 s] e
def sg1 (s : S1 ByteArray) : Seg := mkSg [4, 0, 1, 1, 1, 1, 1] [] [0, 3, 4, 5] [A_1 s] e
def sg2 (s : S2 ByteArray) : Seg := mkSg [1, 0, 5, 4, 0, 1, 1, 1, 1, 1] [] [0, 3, 4, 5, 17] [A_2 s] e
def sg3 (s : S3 ByteArray) : Seg := mkSg [1, 5, 4, 0, 1, 1, 1, 1, 1] [] [0, 3, 4, 5] [A_3 s] e
section
variable {β : Type} (s0 : S0 ByteArray) (s1 : S1 ByteArray) (s2 : S2 ByteArray) (s3 : S3 ByteArray)
noncomputable abbrev env : FEnv := mkEnv prog f13 [] 0 [] [sg0 s0, sg1 s1, sg2 s2, sg3 s3]
def c (ret : ByteArray → Option β) (a0 : Int) : Option β := (bif (decide (a0 < (0 : Int))) then ((s0 a0 (IntKind.wrap .u64 ((0 : Int) - (IntKind.wrap .u64 a0)))).bind ret) else ((s0 a0 (IntKind.wrap .u64 a0)).bind ret))
def s0c (ret : ByteArray → Option β) (x0 : Int) (x1 : Int) : Option β := ((s1 x0 x1 (20 : Int) [(0 : Int), (0 : Int), (0 : Int), (0 : Int), (0 : Int), (0 : Int), (0 : Int), (0 : Int), (0 : Int), (0 : Int), (0 : Int), (0 : Int), (0 : Int), (0 : Int), (0 : Int), (0 : Int), (0 : Int), (0 : Int), (0 : Int), (0 : Int)]).bind ret)
def s1c (ret : ByteArray → Option β) (x0 : Int) (x1 : Int) (x2 : Int) (x3 : List Int) : Option β := (bif (x2 == (20 : Int)) then ((s2 x0 x1 x2 true x3).bind ret) else ((s2 x0 x1 x2 (decide (x1 > (0 : Int))) x3).bind ret))
def s2c (ret : ByteArray → Option β) (x0 : Int) (x1 : Int) (x2 : Int) (x3 : Bool) (x4 : List Int) : Option β := (bif x3 then ((s3 x0 x1 x2 x4).bind ret) else (bif (decide (x0 < (0 : Int))) then (bif ((decide ((0 : Int) ≤ (IntKind.wrap .i64 (x2 - (1 : Int))))) && (decide ((IntKind.wrap .i64 (x2 - (1 : Int))) < (20 : Int)))) then (bif (((decide ((0 : Int) ≤ (IntKind.wrap .i64 (x2 - (1 : Int))))) && (decide ((IntKind.wrap .i64 (x2 - (1 : Int))) ≤ (20 : Int)))) && true) then (ret ((ByteArray.mk (List.toArray (List.map (fun n => (UInt8.ofNat (Int.toNat n))) (List.take ((20 : Nat) - (Int.toNat (IntKind.wrap .i64 (x2 - (1 : Int))))) (List.drop (Int.toNat (IntKind.wrap .i64 (x2 - (1 : Int)))) (List.set x4 (Int.toNat (IntKind.wrap .i64 (x2 - (1 : Int)))) (45 : Int))))))))) else none) else none) else (bif (((decide ((0 : Int) ≤ x2)) && (decide (x2 ≤ (20 : Int)))) && true) then (ret ((ByteArray.mk (List.toArray (List.map (fun n => (UInt8.ofNat (Int.toNat n))) (List.take ((20 : Nat) - (Int.toNat x2)) (List.drop (Int.toNat x2) x4))))))) else none)))
def s3c (ret : ByteArray → Option β) (x0 : Int) (x1 : Int) (x2 : Int) (x3 : List Int) : Option β := (bif ((decide ((0 : Int) ≤ (IntKind.wrap .i64 (x2 - (1 : Int))))) && (decide ((IntKind.wrap .i64 (x2 - (1 : Int))) < (20 : Int)))) then ((s1 x0 (IntKind.wrap .u64 (Int.tdiv x1 (10 : Int))) (IntKind.wrap .i64 (x2 - (1 : Int))) (List.set x3 (Int.toNat (IntKind.wrap .i64 (x2 - (1 : Int)))) (IntKind.wrap .u8 (IntKind.wrap .u64 ((48 : Int) + (Int.tmod x1 (10 : Int))))))).bind ret) else none)
variable {s0} {s1} {s2} {s3}
theorem ev : EvA (env s0 s1 s2 s3) [] [0] e (A (c s0 some)) := fun x y => Eq.trans (b := (A (c s0 fun r => some (e r))).G x y) (by kernel_rfl) (by simp only [A, c, bif_bind, sum_bind, oa, os, on, ofs])
theorem s0_ev : EvA (env s0 s1 s2 s3) [1, 1, 1] [0, 3] e (A_0 (s0c s1 some)) := fun x y => Eq.trans (b := (A_0 (s0c s1 fun r => some (e r))).G x y) (by kernel_rfl) (by simp only [A_0, s0c, bif_bind, sum_bind, oa, os, on, ofs])
theorem s1_ev : EvA (env s0 s1 s2 s3) [4, 0, 1, 1, 1, 1, 1] [0, 3, 4, 5] e (A_1 (s1c s2 some)) := fun x y => Eq.trans (b := (A_1 (s1c s2 fun r => some (e r))).G x y) (by kernel_rfl) (by simp only [A_1, s1c, bif_bind, sum_bind, oa, os, on, ofs])
theorem s2_ev : EvA (env s0 s1 s2 s3) [1, 0, 5, 4, 0, 1, 1, 1, 1, 1] [0, 3, 4, 5, 17] e (A_2 (s2c s3 some)) := fun x y => Eq.trans (b := (A_2 (s2c s3 fun r => some (e r))).G x y) (by kernel_rfl) (by simp only [A_2, s2c, bif_bind, sum_bind, oa, os, on, ofs])
theorem s3_ev : EvA (env s0 s1 s2 s3) [1, 5, 4, 0, 1, 1, 1, 1, 1] [0, 3, 4, 5] e (A_3 (s3c s1 some)) := fun x y => Eq.trans (b := (A_3 (s3c s1 fun r => some (e r))).G x y) (by kernel_rfl) (by simp only [A_3, s3c, bif_bind, sum_bind, oa, os, on, ofs])
end
mutual
def s0 : Nat → S0 ByteArray
  | 0, _, _ => none
  | k + 1, x0, x1 => s0c (s1 k) some x0 x1
def s1 : Nat → S1 ByteArray
  | 0, _, _, _, _ => none
  | k + 1, x0, x1, x2, x3 => s1c (s2 k) some x0 x1 x2 x3
def s2 : Nat → S2 ByteArray
  | 0, _, _, _, _, _ => none
  | k + 1, x0, x1, x2, x3, x4 => s2c (s3 k) some x0 x1 x2 x3 x4
def s3 : Nat → S3 ByteArray
  | 0, _, _, _, _ => none
  | k + 1, x0, x1, x2, x3 => s3c (s1 k) some x0 x1 x2 x3
end
def f (k : Nat) (a0 : Int) : Option ByteArray := c (s0 k) some a0
noncomputable abbrev E (k : Nat) : FEnv := env  (s0 k) (s1 k) (s2 k) (s3 k)
theorem hE (k : Nat) : EnvOK (E k).toEnv := ctsOK L0
theorem segs_ok : ∀ k, ∀ s ∈ [sg0 (s0 k), sg1 (s1 k), sg2 (s2 k), sg3 (s3 k)], SegB prog f13 0 s
  | 0 => (Lc (sg_none (Lc (fun _ _ => rfl) L0)) (Lc (sg_none (Lc (fun _ _ => rfl) L0)) (Lc (sg_none (Lc (fun _ _ => rfl) L0)) (Lc (sg_none (Lc (fun _ _ => rfl) L0)) L0))))
  | k + 1 => (Lc (sg_ok (hE k) (segs_ok k) (Lc s0_ev L0)) (Lc (sg_ok (hE k) (segs_ok k) (Lc s1_ev L0)) (Lc (sg_ok (hE k) (segs_ok k) (Lc s2_ev L0)) (Lc (sg_ok (hE k) (segs_ok k) (Lc s3_ev L0)) L0))))
theorem ok (k : Nat) : CtOK prog 13 (ct (f k)) := fn_ok func13 rfl (by decide) (hE k) (segs_ok k) (Lc ev L0)
end convert_Digits
namespace report_or
def e (r : ByteArray) : Res := ⟨.v (.one (.d .str r)), []⟩
abbrev T (δ : Type) : Type := ByteArray → Int → Option δ
abbrev A {δ : Type} (g : T δ) : Arm δ := ⟨[.d .str, .d (.int .i64)], [], fun x y => g x.1 x.2.1⟩
abbrev G : Type := T ByteArray
def ct (g : G) : Ct := mkCt 0 [] [A g] e
section
variable {β : Type} 
noncomputable abbrev env : FEnv := mkEnv prog f14 [] 0 [] []
def c (ret : ByteArray → Option β) (a0 : ByteArray) (a1 : Int) : Option β := (bif (a1 != (0 : Int)) then (ret ((ByteArray.mk (List.toArray [(63 : UInt8)])))) else (ret (a0)))
theorem ev : EvA (env) [] [0, 1] e (A (c some)) := fun x y => Eq.trans (b := (A (c fun r => some (e r))).G x y) (by kernel_rfl) (by simp only [A, c, bif_bind, sum_bind, oa, os, on, ofs])
end
def f (k : Nat) (a0 : ByteArray) (a1 : Int) : Option ByteArray := c  some a0 a1
noncomputable abbrev E (k : Nat) : FEnv := env  
theorem hE (k : Nat) : EnvOK (E k).toEnv := ctsOK L0
theorem ok (k : Nat) : CtOK prog 14 (ct (f k)) := fn_ok func14 rfl (by decide) (hE k) L0 (Lc ev L0)
end report_or
namespace story_plain
abbrev R : Type := (List (Int × ByteArray))
def e (r : R) : Res := ⟨.v (.one (.mp 0)), [some (.mp (.int .i64) .str r)]⟩
abbrev T (δ : Type) : Type := Option δ
abbrev A {δ : Type} (g : T δ) : Arm δ := ⟨[], [], fun x y => g⟩
abbrev G : Type := T R
def ct (g : G) : Ct := mkCt 0 [] [A g] e
section
variable {β : Type} 
noncomputable abbrev env : FEnv := mkEnv prog f26 [] 0 [] []
def c (ret : R → Option β)  : Option β := (ret ((((([] ++ [((3 : Int), (ByteArray.mk (List.toArray [(109 : UInt8), (105 : UInt8), (103 : UInt8), (114 : UInt8), (97 : UInt8), (116 : UInt8), (101 : UInt8)])))]) ++ [((4 : Int), (ByteArray.mk (List.toArray [(116 : UInt8), (105 : UInt8), (99 : UInt8), (107 : UInt8)])))]) ++ [((5 : Int), (ByteArray.mk (List.toArray [(99 : UInt8), (111 : UInt8), (108 : UInt8), (108 : UInt8), (101 : UInt8), (99 : UInt8), (116 : UInt8)])))]) ++ [((6 : Int), (ByteArray.mk (List.toArray [(102 : UInt8), (114 : UInt8), (101 : UInt8), (101 : UInt8)])))])))
theorem ev : EvA (env) [] [] e (A (c some)) := fun x y => Eq.trans (b := (A (c fun r => some (e r))).G x y) (by kernel_rfl) (by simp only [A, c, bif_bind, sum_bind, oa, os, on, ofs])
end
def f (k : Nat)  : Option R := c  some 
noncomputable abbrev E (k : Nat) : FEnv := env  
theorem hE (k : Nat) : EnvOK (E k).toEnv := ctsOK L0
theorem ok (k : Nat) : CtOK prog 26 (ct (f k)) := fn_ok func26 rfl (by decide) (hE k) L0 (Lc ev L0)
end story_plain
namespace story_writer_word
abbrev R : Type := Int × (List ByteArray)
def e (r : R) : Res := ⟨.tup [], [some (.box [(.own 1), (.d (.int .i64) r.1)]), some (.own .str false r.2)]⟩
abbrev T0 (δ : Type) : Type := (List ByteArray) → Int → (List ByteArray) → Option δ
abbrev A0 {δ : Type} (g : T0 δ) : Arm δ := ⟨[.k (.ptr 0 0), .d (.sl .str)], [.box [.c (.own 1), .g (.int .i64)], .own .str false], fun x y => g x.2.1 y.1.2.1 y.2.1⟩
abbrev T1 (δ : Type) : Type := (List ByteArray) → Int → Option δ
abbrev A1 {δ : Type} (g : T1 δ) : Arm δ := ⟨[.k (.ptr 0 0), .d (.sl .str)], [.box [.c .nilS, .g (.int .i64)]], fun x y => g x.2.1 y.1.2.1⟩
abbrev G0 : Type := T0 R
abbrev G1 : Type := T1 R
def ct (g0 : G0) (g1 : G1) : Ct := mkCt 1 [] [A0 g0, A1 g1] e
section
variable {β : Type} 
noncomputable abbrev env : FEnv := mkEnv prog f27 [] 1 [] []
def c0 (ret : R → Option β) (a0 : List ByteArray) (a1 : Int) (a2 : List ByteArray) : Option β := (bif (decide (((a2.length + a0.length) * (16 : Nat)) ≤ (35184372088832 : Nat))) then (ret (a1, (a2 ++ a0))) else none)
def c1 (ret : R → Option β) (a0 : List ByteArray) (a1 : Int) : Option β := (bif (decide ((((0 : Nat) + a0.length) * (16 : Nat)) ≤ (35184372088832 : Nat))) then (ret (a1, ([] ++ a0))) else none)
theorem ev0 : EvA (env) [] [0, 1] e (A0 (c0 some)) := fun x y => Eq.trans (b := (A0 (c0 fun r => some (e r))).G x y) (by kernel_rfl) (by simp only [A0, c0, bif_bind, sum_bind, oa, os, on, ofs])
theorem ev1 : EvA (env) [] [0, 1] e (A1 (c1 some)) := fun x y => Eq.trans (b := (A1 (c1 fun r => some (e r))).G x y) (by kernel_rfl) (by simp only [A1, c1, bif_bind, sum_bind, oa, os, on, ofs])
end
def f0 (k : Nat) (a0 : List ByteArray) (a1 : Int) (a2 : List ByteArray) : Option R := c0  some a0 a1 a2
def f1 (k : Nat) (a0 : List ByteArray) (a1 : Int) : Option R := c1  some a0 a1
noncomputable abbrev E (k : Nat) : FEnv := env  
theorem hE (k : Nat) : EnvOK (E k).toEnv := ctsOK L0
theorem ok (k : Nat) : CtOK prog 27 (ct (f0 k) (f1 k)) := fn_ok func27 rfl (by decide) (hE k) L0 (Lc ev0 (Lc ev1 L0))
end story_writer_word
namespace story_writer_fail
abbrev R : Type := (Int × (List ByteArray)) ⊕ Int
def e (r : R) : Res := Sum.elim (fun r =>  ⟨.tup [], [some (.box [(.own 1), (.d (.int .i64) r.1)]), some (.own .str false r.2)]⟩) (fun r =>  ⟨.tup [], [some (.box [(.raw (.slice none 0 0)), (.d (.int .i64) r)])]⟩) r
abbrev T0 (δ : Type) : Type := Int → Int → (List ByteArray) → Option δ
abbrev A0 {δ : Type} (g : T0 δ) : Arm δ := ⟨[.k (.ptr 0 0), .d (.int .i64)], [.box [.c (.own 1), .g (.int .i64)], .own .str false], fun x y => g x.2.1 y.1.2.1 y.2.1⟩
abbrev T1 (δ : Type) : Type := Int → Int → Option δ
abbrev A1 {δ : Type} (g : T1 δ) : Arm δ := ⟨[.k (.ptr 0 0), .d (.int .i64)], [.box [.c .nilS, .g (.int .i64)]], fun x y => g x.2.1 y.1.2.1⟩
abbrev G0 : Type := T0 R
abbrev G1 : Type := T1 R
def ek {β : Type} (r : R) (K : Res → Option β) : Option β := Sum.elim (fun r => K ⟨.tup [], [some (.box [(.own 1), (.d (.int .i64) r.1)]), some (.own .str false r.2)]⟩) (fun r => K ⟨.tup [], [some (.box [(.raw (.slice none 0 0)), (.d (.int .i64) r)])]⟩) r
theorem hk {β : Type} (r : R) (K : Res → Option β) : ek r K = K (e r) := by rcases r with _ | _ <;> rfl
def ct (g0 : G0) (g1 : G1) : Ct := mkCtS 1 [] [A0 g0, A1 g1] e ek hk
section
variable {β : Type} 
noncomputable abbrev env : FEnv := mkEnv prog f30 [] 1 [] []
def c0 (ret : R → Option β) (a0 : Int) (a1 : Int) (a2 : List ByteArray) : Option β := (bif (a1 == (0 : Int)) then (ret (.inl (a0, a2))) else (ret (.inl (a1, a2))))
def c1 (ret : R → Option β) (a0 : Int) (a1 : Int) : Option β := (bif (a1 == (0 : Int)) then (ret (.inr (a0))) else (ret (.inr (a1))))
theorem ev0 : EvA (env) [] [0, 1] e (A0 (c0 some)) := fun x y => Eq.trans (b := (A0 (c0 fun r => some (e r))).G x y) (by kernel_rfl) (by simp only [A0, c0, bif_bind, sum_bind, oa, os, on, ofs])
theorem ev1 : EvA (env) [] [0, 1] e (A1 (c1 some)) := fun x y => Eq.trans (b := (A1 (c1 fun r => some (e r))).G x y) (by kernel_rfl) (by simp only [A1, c1, bif_bind, sum_bind, oa, os, on, ofs])
end
def f0 (k : Nat) (a0 : Int) (a1 : Int) (a2 : List ByteArray) : Option R := c0  some a0 a1 a2
def f1 (k : Nat) (a0 : Int) (a1 : Int) : Option R := c1  some a0 a1
noncomputable abbrev E (k : Nat) : FEnv := env  
theorem hE (k : Nat) : EnvOK (E k).toEnv := ctsOK L0
theorem ok (k : Nat) : CtOK prog 30 (ct (f0 k) (f1 k)) := fn_okS hk (fn_ok func30 rfl (by decide) (hE k) L0 (Lc ev0 (Lc ev1 L0)))
end story_writer_fail
namespace story_writer_number
abbrev R : Type := Int × (List ByteArray)
def e (r : R) : Res := ⟨.tup [], [some (.box [(.own 1), (.d (.int .i64) r.1)]), some (.own .str false r.2)]⟩
abbrev T (δ : Type) : Type := Int → Int → (List ByteArray) → Option δ
abbrev A {δ : Type} (g : T δ) : Arm δ := ⟨[.k (.ptr 0 0), .d (.int .i64)], [.box [.c (.own 1), .g (.int .i64)], .own .str false], fun x y => g x.2.1 y.1.2.1 y.2.1⟩
abbrev G : Type := T R
def ct (g : G) : Ct := mkCt 1 [] [A g] e
section
variable {β : Type} (g13 : convert_Digits.G) (g27_0 : story_writer_word.G0) (g27_1 : story_writer_word.G1) (g30_0 : story_writer_fail.G0) (g30_1 : story_writer_fail.G1)
noncomputable abbrev env : FEnv := mkEnv prog f28 [(13, convert_Digits.ct g13), (27, story_writer_word.ct g27_0 g27_1), (30, story_writer_fail.ct g30_0 g30_1)] 1 [] []
def c (ret : R → Option β) (a0 : Int) (a1 : Int) (a2 : List ByteArray) : Option β := (bif (decide (a0 < (0 : Int))) then ((g30_0 (1 : Int) a1 a2).bind fun r0 => (Sum.elim (fun r1 => ((g13 a0).bind fun r2 => ((g27_0 [r2] r1.1 r1.2).bind fun r3 => (ret (r3.1, r3.2))))) (fun r4 => ((g13 a0).bind fun r5 => ((g27_1 [r5] r4).bind fun r6 => (ret (r6.1, r6.2))))) r0)) else (bif (decide (a0 > (1000 : Int))) then ((g30_0 (1 : Int) a1 a2).bind fun r7 => (Sum.elim (fun r8 => ((g13 a0).bind fun r9 => ((g27_0 [r9] r8.1 r8.2).bind fun r10 => (ret (r10.1, r10.2))))) (fun r11 => ((g13 a0).bind fun r12 => ((g27_1 [r12] r11).bind fun r13 => (ret (r13.1, r13.2))))) r7)) else ((g13 a0).bind fun r14 => ((g27_0 [r14] a1 a2).bind fun r15 => (ret (r15.1, r15.2))))))
variable {g13} {g27_0} {g27_1} {g30_0} {g30_1}
theorem ev : EvA (env g13 g27_0 g27_1 g30_0 g30_1) [] [0, 1] e (A (c g13 g27_0 g27_1 g30_0 some)) := fun x y => Eq.trans (b := (A (c g13 g27_0 g27_1 g30_0 fun r => some (e r))).G x y) (by kernel_rfl) (by simp only [A, c, bif_bind, sum_bind, oa, os, on, ofs])
end
def f (k : Nat) (a0 : Int) (a1 : Int) (a2 : List ByteArray) : Option R := c (convert_Digits.f k) (story_writer_word.f0 k) (story_writer_word.f1 k) (story_writer_fail.f0 k) some a0 a1 a2
noncomputable abbrev E (k : Nat) : FEnv := env (convert_Digits.f k) (story_writer_word.f0 k) (story_writer_word.f1 k) (story_writer_fail.f0 k) (story_writer_fail.f1 k) 
theorem hE (k : Nat) : EnvOK (E k).toEnv := ctsOK (Lc (convert_Digits.ok k) (Lc (story_writer_word.ok k) (Lc (story_writer_fail.ok k) L0)))
theorem ok (k : Nat) : CtOK prog 28 (ct (f k)) := fn_ok func28 rfl (by decide) (hE k) L0 (Lc ev L0)
end story_writer_number
end Go.Proofs.Ythaannpgcbpjkaa.Aev
