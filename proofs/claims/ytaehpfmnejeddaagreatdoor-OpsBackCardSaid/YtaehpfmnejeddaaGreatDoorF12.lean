import Derived.Test.YtaehpfmnejeddaaGreatDoorTys
import Derived.Test.YtaehpfmnejeddaaGreatDoorProg
import Derived.Laws.Externs
import Derived.Lib.Bytealg
import Derived.Test.YtaehpfmnejeddaaGreatDoorF6
import Derived.Test.YtaehpfmnejeddaaGreatDoorF7
import Derived.Test.YtaehpfmnejeddaaGreatDoorF8
import Derived.Test.YtaehpfmnejeddaaGreatDoorF9
/- By a program of this session (AEV): functions of the program as plain functions, and that the machine does what they say. -/
namespace Go.Proofs.YtaehpfmnejeddaaGreatDoor.Aev
set_option linter.unusedVariables false
set_option linter.unusedSimpArgs false
set_option maxRecDepth 100000
set_option maxHeartbeats 4000000
open Go Go.Proofs.Tryz
end Go.Proofs.YtaehpfmnejeddaaGreatDoor.Aev
/- By a program of this session (AEV): functions of the program as plain functions, and that the machine does what they say. -/
namespace Go.Proofs.YtaehpfmnejeddaaGreatDoor.Aev
set_option linter.unusedVariables false
set_option linter.unusedSimpArgs false
set_option maxRecDepth 100000
set_option maxHeartbeats 4000000
open Go Go.Proofs.Tryz
namespace transomref04_Same
def e (r : Bool) : Res := ⟨.v (.one (.d .bool r)), []⟩
abbrev T (δ : Type) : Type := Int → Int → Int → ByteArray → Int → Int → Int → ByteArray → Option δ
abbrev A {δ : Type} (g : T δ) : Arm δ := ⟨[.s T_api_Value, .s T_api_Value], [], fun x y => g x.1.1.1 x.1.1.2.1 x.1.1.2.2.1 x.1.1.2.2.2.1 x.2.1.1.1 x.2.1.1.2.1 x.2.1.1.2.2.1 x.2.1.1.2.2.2.1⟩
abbrev G : Type := T Bool
def ct (g : G) : Ct := mkCt 0 [] [A g] e
section
variable {β : Type} 
noncomputable abbrev env : FEnv := mkEnv prog f72 [] 0 [] []
def c (ret : Bool → Option β) (a0 : Int) (a1 : Int) (a2 : Int) (a3 : ByteArray) (a4 : Int) (a5 : Int) (a6 : Int) (a7 : ByteArray) : Option β := (bif (a0 == a4) then (bif (a1 == a5) then (bif (a2 == a6) then (ret ((a3.toList == a7.toList))) else (ret (false))) else (ret (false))) else (ret (false)))
theorem ev : EvA (env) [] [0, 1] e (A (c some)) := fun x y => Eq.trans (b := (A (c fun r => some (e r))).G x y) (by kernel_rfl) (by simp only [A, c, bo, sum_bind, oa, os, on, ofs])
end
def f (k : Nat) (a0 : Int) (a1 : Int) (a2 : Int) (a3 : ByteArray) (a4 : Int) (a5 : Int) (a6 : Int) (a7 : ByteArray) : Option Bool := c  some a0 a1 a2 a3 a4 a5 a6 a7
noncomputable abbrev E (k : Nat) : FEnv := env  
theorem hE (k : Nat) : EnvOK (E k).toEnv := ctsOK L0
theorem ok (k : Nat) : CtOK prog 72 (ct (f k)) := fn_ok func72 rfl (by decide) (hE k) L0 (Lc ev L0)
end transomref04_Same
namespace transomref04_SameRow
def e (r : Bool) : Res := ⟨.v (.one (.d .bool r)), []⟩
abbrev T (δ : Type) : Type := (List D_api_Value) → (List D_api_Value) → Option δ
abbrev A {δ : Type} (g : T δ) : Arm δ := ⟨[.d (.sl T_api_Value), .d (.sl T_api_Value)], [], fun x y => g x.1 x.2.1⟩
abbrev G : Type := T Bool
def ct (g : G) : Ct := mkCt 0 [] [A g] e
abbrev S0 (δ : Type) : Type := (List D_api_Value) → (List D_api_Value) → Int → Option δ
abbrev A_0 {δ : Type} (s : S0 δ) : Arm δ := ⟨[.d (.sl T_api_Value), .d (.sl T_api_Value), .d (.int .i64)], [], fun x y => s x.1 x.2.1 x.2.2.1⟩
def sg0 (s : S0 Bool) : Seg := mkSg [4, 1, 0, 1, 1] [] [0, 1, 5] [A_0 s] e
section
variable {β : Type} (g72 : transomref04_Same.G) (s0 : S0 Bool)
noncomputable abbrev env : FEnv := mkEnv prog f80 [(72, transomref04_Same.ct g72)] 0 [] [sg0 s0]
def c (ret : Bool → Option β) (a0 : List D_api_Value) (a1 : List D_api_Value) : Option β := (bif ((a0.length : Int) != (a1.length : Int)) then (ret (false)) else ((s0 a0 a1 (0 : Int)).bind ret))
def s0c (ret : Bool → Option β) (x0 : List D_api_Value) (x1 : List D_api_Value) (x2 : Int) : Option β := (bif (decide (x2 < (x0.length : Int))) then (bif ((decide ((0 : Int) ≤ x2)) && (decide (x2 < (x0.length : Int)))) then (bif ((decide ((0 : Int) ≤ x2)) && (decide (x2 < (x1.length : Int)))) then ((g72 (elem T_api_Value x0 x2).1 (elem T_api_Value x0 x2).2.1 (elem T_api_Value x0 x2).2.2.1 (elem T_api_Value x0 x2).2.2.2.1 (elem T_api_Value x1 x2).1 (elem T_api_Value x1 x2).2.1 (elem T_api_Value x1 x2).2.2.1 (elem T_api_Value x1 x2).2.2.2.1).bind fun r0 => (bif (!r0) then (ret (false)) else ((s0 x0 x1 (IntKind.wrap .i64 (x2 + (1 : Int)))).bind ret))) else none) else none) else (ret (true)))
variable {g72} {s0}
theorem ev : EvA (env g72 s0) [] [0, 1] e (A (c s0 some)) := fun x y => Eq.trans (b := (A (c s0 fun r => some (e r))).G x y) (by kernel_rfl) (by simp only [A, c, bo, sum_bind, oa, os, on, ofs])
theorem s0_ev : EvA (env g72 s0) [4, 1, 0, 1, 1] [0, 1, 5] e (A_0 (s0c g72 s0 some)) := fun x y => Eq.trans (b := (A_0 (s0c g72 s0 fun r => some (e r))).G x y) (by kernel_rfl) (by simp only [A_0, s0c, bo, sum_bind, oa, os, on, ofs])
end
def s0 : Nat → S0 Bool
 | 0, _, _, _ => none
 | k + 1, x0, x1, x2 => s0c (transomref04_Same.f k) (s0 k) some x0 x1 x2
def f (k : Nat) (a0 : List D_api_Value) (a1 : List D_api_Value) : Option Bool := c (s0 k) some a0 a1
noncomputable abbrev E (k : Nat) : FEnv := env (transomref04_Same.f k) (s0 k)
theorem hE (k : Nat) : EnvOK (E k).toEnv := ctsOK (Lc (transomref04_Same.ok k) L0)
theorem sk : ∀ k, ∀ s ∈ [sg0 (s0 k)], SegB prog f80 0 s
 | 0 => (Lc (sn (Lc (fun _ _ => rfl) L0)) L0)
 | k + 1 => (Lc (sg_ok (hE k) (sk k) (Lc s0_ev L0)) L0)
theorem ok (k : Nat) : CtOK prog 80 (ct (f k)) := fn_ok func80 rfl (by decide) (hE k) (sk k) (Lc ev L0)
end transomref04_SameRow
namespace transomref06_Same
def e (r : Bool) : Res := ⟨.v (.one (.d .bool r)), []⟩
abbrev T (δ : Type) : Type := (List D_api_Value) → (List D_api_Value) → Option δ
abbrev A {δ : Type} (g : T δ) : Arm δ := ⟨[.d (.sl T_api_Value), .d (.sl T_api_Value)], [], fun x y => g x.1 x.2.1⟩
abbrev G : Type := T Bool
def ct (g : G) : Ct := mkCt 0 [] [A g] e
section
variable {β : Type} (g80 : transomref04_SameRow.G)
noncomputable abbrev env : FEnv := mkEnv prog f57 [(80, transomref04_SameRow.ct g80)] 0 [] []
def c (ret : Bool → Option β) (a0 : List D_api_Value) (a1 : List D_api_Value) : Option β := ((g80 a0 a1).bind fun r0 => (ret (r0)))
variable {g80}
theorem ev : EvA (env g80) [] [0, 1] e (A (c g80 some)) := fun x y => Eq.trans (b := (A (c g80 fun r => some (e r))).G x y) (by kernel_rfl) (by simp only [A, c, bo, sum_bind, oa, os, on, ofs])
end
def f (k : Nat) (a0 : List D_api_Value) (a1 : List D_api_Value) : Option Bool := c (transomref04_SameRow.f k) some a0 a1
noncomputable abbrev E (k : Nat) : FEnv := env (transomref04_SameRow.f k) 
theorem hE (k : Nat) : EnvOK (E k).toEnv := ctsOK (Lc (transomref04_SameRow.ok k) L0)
theorem ok (k : Nat) : CtOK prog 57 (ct (f k)) := fn_ok func57 rfl (by decide) (hE k) L0 (Lc ev L0)
end transomref06_Same
end Go.Proofs.YtaehpfmnejeddaaGreatDoor.Aev
/- By a program of this session (AEV): functions of the program as plain functions, and that the machine does what they say. -/
namespace Go.Proofs.YtaehpfmnejeddaaGreatDoor.Aev
set_option linter.unusedVariables false
set_option linter.unusedSimpArgs false
set_option maxRecDepth 100000
set_option maxHeartbeats 4000000
open Go Go.Proofs.Tryz
namespace transomref14_Same
def e (r : Bool) : Res := ⟨.v (.one (.d .bool r)), []⟩
abbrev T (δ : Type) : Type := D_api_Op → D_api_Op → Option δ
abbrev A {δ : Type} (g : T δ) : Arm δ := ⟨[.s T_api_Op, .s T_api_Op], [], fun x y => g x.1.1 x.2.1.1⟩
abbrev G : Type := T Bool
def ct (g : G) : Ct := mkCt 0 [] [A g] e
abbrev S0 (δ : Type) : Type := Bool → D_api_Op → D_api_Op → Option δ
abbrev A_0 {δ : Type} (s : S0 δ) : Arm δ := ⟨[.k (.ptr 0 0), .k (.ptr 1 0), .d .bool], [.box [.g T_api_Op], .box [.g T_api_Op]], fun x y => s x.2.2.1 y.1.1 y.2.1.1⟩
abbrev S1 (δ : Type) : Type := D_api_Op → D_api_Op → Option δ
abbrev A_1 {δ : Type} (s : S1 δ) : Arm δ := ⟨[.k (.ptr 0 0), .k (.ptr 1 0)], [.box [.g T_api_Op], .box [.g T_api_Op]], fun x y => s y.1.1 y.2.1.1⟩
def sg0 (s : S0 Bool) : Seg := mkSg [1, 0, 1] [] [2, 3, 51] [A_0 s] e
def sg1 (s : S1 Bool) : Seg := mkSg [1, 1] [] [2, 3] [A_1 s] e
section
variable {β : Type} (g11 : transomref14_PutChange.G) (g57 : transomref06_Same.G) (s0 : S0 Bool) (s1 : S1 Bool)
noncomputable abbrev env : FEnv := mkEnv prog f20 [(11, transomref14_PutChange.ct g11), (57, transomref06_Same.ct g57)] 0 [] [sg0 s0, sg1 s1]
def c (ret : Bool → Option β) (a0 : D_api_Op) (a1 : D_api_Op) : Option β := (bif (a0.1 != a1.1) then ((s0 true a0 a1).bind ret) else (bif (!(a0.2.1.toList == a1.2.1.toList)) then ((s0 true a0 a1).bind ret) else (bif (a0.2.2.2.2.2.1 != a1.2.2.2.2.2.1) then ((s0 true a0 a1).bind ret) else ((g57 a0.2.2.1 a1.2.2.1).bind fun r0 => (bif (!r0) then ((s0 true a0 a1).bind ret) else ((g57 a0.2.2.2.1 a1.2.2.2.1).bind fun r1 => (bif (!r1) then ((s0 true a0 a1).bind ret) else ((g57 a0.2.2.2.2.1 a1.2.2.2.2.1).bind fun r2 => ((s0 (!r2) a0 a1).bind ret)))))))))
def s0c (ret : Bool → Option β) (x0 : Bool) (x1 : D_api_Op) (x2 : D_api_Op) : Option β := (bif x0 then (ret (false)) else ((s1 x1 x2).bind ret))
def s1c (ret : Bool → Option β) (x0 : D_api_Op) (x1 : D_api_Op) : Option β := (bif (x0.1 != (6 : Int)) then (ret (true)) else ((g11 x0.2.2.2.2.2.2.1).bind fun r0 => ((g11 x1.2.2.2.2.2.2.1).bind fun r1 => (bif (r0.2 == (0 : Int)) then (bif (r1.2 == (0 : Int)) then (ret ((r0.1.toList == r1.1.toList))) else (ret (false))) else (ret (false))))))
variable {g11} {g57} {s0} {s1}
theorem ev : EvA (env g11 g57 s0 s1) [] [0, 1] e (A (c g57 s0 some)) := fun x y => Eq.trans (b := (A (c g57 s0 fun r => some (e r))).G x y) (by kernel_rfl) (by simp only [A, c, bo, sum_bind, oa, os, on, ofs])
theorem s0_ev : EvA (env g11 g57 s0 s1) [1, 0, 1] [2, 3, 51] e (A_0 (s0c s1 some)) := fun x y => Eq.trans (b := (A_0 (s0c s1 fun r => some (e r))).G x y) (by kernel_rfl) (by simp only [A_0, s0c, bo, sum_bind, oa, os, on, ofs])
theorem s1_ev : EvA (env g11 g57 s0 s1) [1, 1] [2, 3] e (A_1 (s1c g11 some)) := fun x y => Eq.trans (b := (A_1 (s1c g11 fun r => some (e r))).G x y) (by kernel_rfl) (by simp only [A_1, s1c, bo, sum_bind, oa, os, on, ofs])
end
mutual
def s0 : Nat → S0 Bool
 | 0, _, _, _ => none
 | k + 1, x0, x1, x2 => s0c (s1 k) some x0 x1 x2
def s1 : Nat → S1 Bool
 | 0, _, _ => none
 | k + 1, x0, x1 => s1c (transomref14_PutChange.f k) some x0 x1
end
def f (k : Nat) (a0 : D_api_Op) (a1 : D_api_Op) : Option Bool := c (transomref06_Same.f k) (s0 k) some a0 a1
noncomputable abbrev E (k : Nat) : FEnv := env (transomref14_PutChange.f k) (transomref06_Same.f k) (s0 k) (s1 k)
theorem hE (k : Nat) : EnvOK (E k).toEnv := ctsOK (Lc (transomref14_PutChange.ok k) (Lc (transomref06_Same.ok k) L0))
theorem sk : ∀ k, ∀ s ∈ [sg0 (s0 k), sg1 (s1 k)], SegB prog f20 0 s
 | 0 => (Lc (sn (Lc (fun _ _ => rfl) L0)) (Lc (sn (Lc (fun _ _ => rfl) L0)) L0))
 | k + 1 => (Lc (sg_ok (hE k) (sk k) (Lc s0_ev L0)) (Lc (sg_ok (hE k) (sk k) (Lc s1_ev L0)) L0))
theorem ok (k : Nat) : CtOK prog 20 (ct (f k)) := fn_ok func20 rfl (by decide) (hE k) (sk k) (Lc ev L0)
end transomref14_Same
end Go.Proofs.YtaehpfmnejeddaaGreatDoor.Aev
