/- By a program of this session (AEV): functions of the program as plain functions, and that the machine does what they say. -/
import Derived.Test.YtijjlpgcpdapnaaGreatDoorTys
import Derived.Test.YtijjlpgcpdapnaaGreatDoorProg
import Derived.Laws.Externs
import Derived.Lib.Bytealg
import Derived.Test.YtijjlpgcpdapnaaGreatDoorF0
import Derived.Test.YtijjlpgcpdapnaaGreatDoorF4
import Derived.Test.YtijjlpgcpdapnaaGreatDoorF5
import Derived.Test.YtijjlpgcpdapnaaGreatDoorF9
namespace Go.Proofs.YtijjlpgcpdapnaaGreatDoor.Aev
set_option linter.unusedVariables false
set_option linter.unusedSimpArgs false
set_option maxRecDepth 100000
set_option maxHeartbeats 4000000
open Go Go.Proofs.Tryz
namespace transomlaw11_TransformOne
def e (r : Bool) : Res := ⟨.v (.one (.d .bool r)), []⟩
abbrev T (δ : Type) : Type := ByteArray → Int → (List D_api_Col) → D_api_Change → (List D_api_Value) → Option δ
abbrev A {δ : Type} (g : T δ) : Arm δ := ⟨[.s T_api_Table, .s T_api_Change, .d (.sl T_api_Value)], [], fun x y => g x.1.1.1 x.1.1.2.1 x.1.1.2.2.1 x.2.1.1 x.2.2.1⟩
abbrev G : Type := T Bool
def ct (g : G) : Ct := mkCt 0 [] [A g] e
abbrev S0 (δ : Type) : Type := (List D_api_Value) → Bool → ByteArray → Int → (List D_api_Col) → D_api_Change → Option δ
abbrev A_0 {δ : Type} (s : S0 δ) : Arm δ := ⟨[.d (.sl T_api_Value), .k (.ptr 0 0), .k (.ptr 1 0), .d .bool], [.box [.g T_api_Table], .box [.g T_api_Change]], fun x y => s x.1 x.2.2.2.1 y.1.1.1 y.1.1.2.1 y.1.1.2.2.1 y.2.1.1⟩
abbrev S1 (δ : Type) : Type := (List D_api_Value) → ByteArray → Int → (List D_api_Col) → D_api_Change → Option δ
abbrev A_1 {δ : Type} (s : S1 δ) : Arm δ := ⟨[.d (.sl T_api_Value), .k (.ptr 0 0), .k (.ptr 1 0)], [.box [.g T_api_Table], .box [.g T_api_Change]], fun x y => s x.1 y.1.1.1 y.1.1.2.1 y.1.1.2.2.1 y.2.1.1⟩
def sg0 (s : S0 Bool) : Seg := mkSg [1, 0, 1] [] [2, 3, 4, 23] [A_0 s] e
def sg1 (s : S1 Bool) : Seg := mkSg [1, 1] [] [2, 3, 4] [A_1 s] e
section
variable {β : Type} (g6 : transomlaw09_Few.G) (g7 : transomlaw10_Few.G) (g8 : transomlaw05_Few.G) (g9 : transomlaw11_awake.G) (g10 : transform_Row.G) (g11 : transomref11_Row.G) (g12 : transomref06_All.G) (s0 : S0 Bool) (s1 : S1 Bool)
noncomputable abbrev env : FEnv := mkEnv prog f3 [(6, transomlaw09_Few.ct g6), (7, transomlaw10_Few.ct g7), (8, transomlaw05_Few.ct g8), (9, transomlaw11_awake.ct g9), (10, transform_Row.ct g10), (11, transomref11_Row.ct g11), (12, transomref06_All.ct g12)] 0 [] [sg0 s0, sg1 s1]
def c (ret : Bool → Option β) (a0 : ByteArray) (a1 : Int) (a2 : List D_api_Col) (a3 : D_api_Change) (a4 : List D_api_Value) : Option β := ((g6 a0 a1 a2).bind fun r0 => (bif (r0 == (0 : Int)) then ((s0 a4 true a0 a1 a2 a3).bind ret) else ((g7 a3).bind fun r1 => (bif (r1 == (0 : Int)) then ((s0 a4 true a0 a1 a2 a3).bind ret) else ((g8 a4).bind fun r2 => ((s0 a4 (r2 == (0 : Int)) a0 a1 a2 a3).bind ret))))))
def s0c (ret : Bool → Option β) (x0 : List D_api_Value) (x1 : Bool) (x2 : ByteArray) (x3 : Int) (x4 : List D_api_Col) (x5 : D_api_Change) : Option β := (bif x1 then (g9.bind fun r0 => (ret (r0))) else ((s1 x0 x2 x3 x4 x5).bind ret))
def s1c (ret : Bool → Option β) (x0 : List D_api_Value) (x1 : ByteArray) (x2 : Int) (x3 : List D_api_Col) (x4 : D_api_Change) : Option β := ((g10 x1 x2 x3 x4 x0).bind fun r0 => ((g11 x1 x2 x3 x4 x0).bind fun r1 => ((g12 r0.1 r1.1).bind fun r2 => (bif r2 then (bif (r0.2 == r1.2) then (g9.bind fun r3 => (ret (r3))) else (ret (false))) else (ret (false))))))
variable {g6} {g7} {g8} {g9} {g10} {g11} {g12} {s0} {s1}
theorem ev : EvA (env g6 g7 g8 g9 g10 g11 g12 s0 s1) [] [0, 1, 2] e (A (c g6 g7 g8 s0 some)) := fun x y => Eq.trans (b := (A (c g6 g7 g8 s0 fun r => some (e r))).G x y) (by kernel_rfl) (by simp only [A, c, bif_bind, sum_bind, oa, os, on, ofs])
theorem s0_ev : EvA (env g6 g7 g8 g9 g10 g11 g12 s0 s1) [1, 0, 1] [2, 3, 4, 23] e (A_0 (s0c g9 s1 some)) := fun x y => Eq.trans (b := (A_0 (s0c g9 s1 fun r => some (e r))).G x y) (by kernel_rfl) (by simp only [A_0, s0c, bif_bind, sum_bind, oa, os, on, ofs])
theorem s1_ev : EvA (env g6 g7 g8 g9 g10 g11 g12 s0 s1) [1, 1] [2, 3, 4] e (A_1 (s1c g9 g10 g11 g12 some)) := fun x y => Eq.trans (b := (A_1 (s1c g9 g10 g11 g12 fun r => some (e r))).G x y) (by kernel_rfl) (by simp only [A_1, s1c, bif_bind, sum_bind, oa, os, on, ofs])
end
mutual
def s0 : Nat → S0 Bool
  | 0, _, _, _, _, _, _ => none
  | k + 1, x0, x1, x2, x3, x4, x5 => s0c (transomlaw11_awake.f k) (s1 k) some x0 x1 x2 x3 x4 x5
def s1 : Nat → S1 Bool
  | 0, _, _, _, _, _ => none
  | k + 1, x0, x1, x2, x3, x4 => s1c (transomlaw11_awake.f k) (transform_Row.f k) (transomref11_Row.f k) (transomref06_All.f k) some x0 x1 x2 x3 x4
end
def f (k : Nat) (a0 : ByteArray) (a1 : Int) (a2 : List D_api_Col) (a3 : D_api_Change) (a4 : List D_api_Value) : Option Bool := c (transomlaw09_Few.f k) (transomlaw10_Few.f k) (transomlaw05_Few.f k) (s0 k) some a0 a1 a2 a3 a4
noncomputable abbrev E (k : Nat) : FEnv := env (transomlaw09_Few.f k) (transomlaw10_Few.f k) (transomlaw05_Few.f k) (transomlaw11_awake.f k) (transform_Row.f k) (transomref11_Row.f k) (transomref06_All.f k) (s0 k) (s1 k)
theorem hE (k : Nat) : EnvOK (E k).toEnv := ctsOK (Lc (transomlaw09_Few.ok k) (Lc (transomlaw10_Few.ok k) (Lc (transomlaw05_Few.ok k) (Lc (transomlaw11_awake.ok k) (Lc (transform_Row.ok k) (Lc (transomref11_Row.ok k) (Lc (transomref06_All.ok k) L0)))))))
theorem segs_ok : ∀ k, ∀ s ∈ [sg0 (s0 k), sg1 (s1 k)], SegB prog f3 0 s
  | 0 => (Lc (sg_none (Lc (fun _ _ => rfl) L0)) (Lc (sg_none (Lc (fun _ _ => rfl) L0)) L0))
  | k + 1 => (Lc (sg_ok (hE k) (segs_ok k) (Lc s0_ev L0)) (Lc (sg_ok (hE k) (segs_ok k) (Lc s1_ev L0)) L0))
theorem ok (k : Nat) : CtOK prog 3 (ct (f k)) := fn_ok func3 rfl (by decide) (hE k) (segs_ok k) (Lc ev L0)
end transomlaw11_TransformOne
end Go.Proofs.YtijjlpgcpdapnaaGreatDoor.Aev
