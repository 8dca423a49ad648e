import Derived.Test.YtimadphjdkjgaaaGreatDoorTys
import Derived.Test.YtimadphjdkjgaaaGreatDoorProg
import Derived.Laws.Externs
import Derived.Lib.Bytealg
import Derived.Test.YtimadphjdkjgaaaGreatDoorF13
import Derived.Test.YtimadphjdkjgaaaGreatDoorF10
/- By a program of this session (AEV): functions of the program as plain functions, and that the machine does what they say. -/
namespace Go.Proofs.YtimadphjdkjgaaaGreatDoor.Aev
set_option linter.unusedVariables false
set_option linter.unusedSimpArgs false
set_option maxRecDepth 100000
set_option maxHeartbeats 4000000
open Go Go.Proofs.Tryz
namespace r09_SameCol
def e (r : Bool) : Res := ⟨.v (.one (.d .bool r)), []⟩
abbrev T (δ : Type) : Type := ByteArray → Int → Bool → Int → Int → Int → ByteArray → ByteArray → Int → Bool → Int → Int → Int → ByteArray → Option δ
abbrev A {δ : Type} (g : T δ) : Arm δ := ⟨[.s T_api_Col, .s T_api_Col], [], fun x y => g x.1.1.1 x.1.1.2.1 x.1.1.2.2.1 x.1.1.2.2.2.1.1 x.1.1.2.2.2.1.2.1 x.1.1.2.2.2.1.2.2.1 x.1.1.2.2.2.1.2.2.2.1 x.2.1.1.1 x.2.1.1.2.1 x.2.1.1.2.2.1 x.2.1.1.2.2.2.1.1 x.2.1.1.2.2.2.1.2.1 x.2.1.1.2.2.2.1.2.2.1 x.2.1.1.2.2.2.1.2.2.2.1⟩
abbrev G : Type := T Bool
def ct (g : G) : Ct := mkCt 0 [] [A g] e
section
variable {β : Type} (g78 : r04_Same.G)
noncomputable abbrev env : FEnv := mkEnv prog f49 [(78, r04_Same.ct g78)] 0 [] []
def c (ret : Bool → Option β) (a0 : ByteArray) (a1 : Int) (a2 : Bool) (a3 a4 a5 : Int) (a6 a7 : ByteArray) (a8 : Int) (a9 : Bool) (a10 a11 a12 : Int) (a13 : ByteArray) : Option β := (bif (a0.toList == a7.toList) then (bif (a1 == a8) then (bif (a2 == a9) then ((g78 a3 a4 a5 a6 a10 a11 a12 a13).bind fun r0 => (ret (r0))) else (ret (false))) else (ret (false))) else (ret (false)))
variable {g78}
theorem ev : EvA (env g78) [] [0, 1] e (A (c g78 some)) := fun x y => Eq.trans (b := (A (c g78 fun r => some (e r))).G x y) (by kernel_rfl) (by simp only [A, c, bo, so, oa, os, on, ofs])
end
def f (k : Nat) (a0 : ByteArray) (a1 : Int) (a2 : Bool) (a3 a4 a5 : Int) (a6 a7 : ByteArray) (a8 : Int) (a9 : Bool) (a10 a11 a12 : Int) (a13 : ByteArray) : Option Bool := c (r04_Same.f k) some a0 a1 a2 a3 a4 a5 a6 a7 a8 a9 a10 a11 a12 a13
noncomputable abbrev E (k : Nat) : FEnv := env (r04_Same.f k) 
theorem hE (k : Nat) : EnvOK (E k).toEnv := ctsOK (Lc (r04_Same.ok k) L0)
theorem ok (k : Nat) : CtOK prog 49 (ct (f k)) := fn_ok func49 rfl (by decide) (hE k) L0 (Lc ev L0)
end r09_SameCol
namespace r09_SameCols
def e (r : Bool) : Res := ⟨.v (.one (.d .bool r)), []⟩
abbrev T (δ : Type) : Type := (List D_api_Col) → (List D_api_Col) → Option δ
abbrev A {δ : Type} (g : T δ) : Arm δ := ⟨[.d (.sl T_api_Col), .d (.sl T_api_Col)], [], fun x y => g x.1 x.2.1⟩
abbrev G : Type := T Bool
def ct (g : G) : Ct := mkCt 0 [] [A g] e
abbrev S0 (δ : Type) : Type := (List D_api_Col) → (List D_api_Col) → Int → Option δ
abbrev A_0 {δ : Type} (s : S0 δ) : Arm δ := ⟨[.d (.sl T_api_Col), .d (.sl T_api_Col), .d (.int .i64)], [], fun x y => s x.1 x.2.1 x.2.2.1⟩
def sg0 (s : S0 Bool) : Seg := mkSg [4, 1, 0, 1, 1] [] [0, 1, 5] [A_0 s] e
section
variable {β : Type} (g49 : r09_SameCol.G) (s0 : S0 Bool)
noncomputable abbrev env : FEnv := mkEnv prog f79 [(49, r09_SameCol.ct g49)] 0 [] [sg0 s0]
def c (ret : Bool → Option β) (a0 a1 : List D_api_Col) : Option β := (bif ((a0.length : Int) != (a1.length : Int)) then (ret (false)) else ((s0 a0 a1 (0 : Int)).bind ret))
def s0c (ret : Bool → Option β) (x0 x1 : List D_api_Col) (x2 : Int) : Option β := (bif (decide (x2 < (x0.length : Int))) then (bif ((decide ((0 : Int) ≤ x2)) && (decide (x2 < (x0.length : Int)))) then (bif ((decide ((0 : Int) ≤ x2)) && (decide (x2 < (x1.length : Int)))) then ((g49 (elem T_api_Col x0 x2).1 (elem T_api_Col x0 x2).2.1 (elem T_api_Col x0 x2).2.2.1 (elem T_api_Col x0 x2).2.2.2.1.1 (elem T_api_Col x0 x2).2.2.2.1.2.1 (elem T_api_Col x0 x2).2.2.2.1.2.2.1 (elem T_api_Col x0 x2).2.2.2.1.2.2.2.1 (elem T_api_Col x1 x2).1 (elem T_api_Col x1 x2).2.1 (elem T_api_Col x1 x2).2.2.1 (elem T_api_Col x1 x2).2.2.2.1.1 (elem T_api_Col x1 x2).2.2.2.1.2.1 (elem T_api_Col x1 x2).2.2.2.1.2.2.1 (elem T_api_Col x1 x2).2.2.2.1.2.2.2.1).bind fun r0 => (bif (!r0) then (ret (false)) else ((s0 x0 x1 (IntKind.wrap .i64 (x2 + (1 : Int)))).bind ret))) else none) else none) else (ret (true)))
variable {g49} {s0}
theorem ev : EvA (env g49 s0) [] [0, 1] e (A (c s0 some)) := fun x y => Eq.trans (b := (A (c s0 fun r => some (e r))).G x y) (by kernel_rfl) (by simp only [A, c, bo, so, oa, os, on, ofs])
theorem s0_ev : EvA (env g49 s0) [4, 1, 0, 1, 1] [0, 1, 5] e (A_0 (s0c g49 s0 some)) := fun x y => Eq.trans (b := (A_0 (s0c g49 s0 fun r => some (e r))).G x y) (by kernel_rfl) (by simp only [A_0, s0c, bo, so, oa, os, on, ofs])
end
def s0 : Nat → S0 Bool
 | 0, _, _, _ => none
 | k + 1, x0, x1, x2 => s0c (r09_SameCol.f k) (s0 k) some x0 x1 x2
def f (k : Nat) (a0 a1 : List D_api_Col) : Option Bool := c (s0 k) some a0 a1
noncomputable abbrev E (k : Nat) : FEnv := env (r09_SameCol.f k) (s0 k)
theorem hE (k : Nat) : EnvOK (E k).toEnv := ctsOK (Lc (r09_SameCol.ok k) L0)
theorem sk : ∀ k, ∀ s ∈ [sg0 (s0 k)], SegB prog f79 0 s
 | 0 => (Lc (sn (Lc (fun _ _ => rfl) L0)) L0)
 | k + 1 => (Lc (sg_ok (hE k) (sk k) (Lc s0_ev L0)) L0)
theorem ok (k : Nat) : CtOK prog 79 (ct (f k)) := fn_ok func79 rfl (by decide) (hE k) (sk k) (Lc ev L0)
end r09_SameCols
namespace r09_Same
def e (r : Bool) : Res := ⟨.v (.one (.d .bool r)), []⟩
abbrev T (δ : Type) : Type := ByteArray → Int → (List D_api_Col) → ByteArray → Int → (List D_api_Col) → Option δ
abbrev A {δ : Type} (g : T δ) : Arm δ := ⟨[.s T_api_Table, .s T_api_Table], [], fun x y => g x.1.1.1 x.1.1.2.1 x.1.1.2.2.1 x.2.1.1.1 x.2.1.1.2.1 x.2.1.1.2.2.1⟩
abbrev G : Type := T Bool
def ct (g : G) : Ct := mkCt 0 [] [A g] e
section
variable {β : Type} (g79 : r09_SameCols.G)
noncomputable abbrev env : FEnv := mkEnv prog f50 [(79, r09_SameCols.ct g79)] 0 [] []
def c (ret : Bool → Option β) (a0 : ByteArray) (a1 : Int) (a2 : List D_api_Col) (a3 : ByteArray) (a4 : Int) (a5 : List D_api_Col) : Option β := (bif (a0.toList == a3.toList) then (bif (a1 == a4) then ((g79 a2 a5).bind fun r0 => (ret (r0))) else (ret (false))) else (ret (false)))
variable {g79}
theorem ev : EvA (env g79) [] [0, 1] e (A (c g79 some)) := fun x y => Eq.trans (b := (A (c g79 fun r => some (e r))).G x y) (by kernel_rfl) (by simp only [A, c, bo, so, oa, os, on, ofs])
end
def f (k : Nat) (a0 : ByteArray) (a1 : Int) (a2 : List D_api_Col) (a3 : ByteArray) (a4 : Int) (a5 : List D_api_Col) : Option Bool := c (r09_SameCols.f k) some a0 a1 a2 a3 a4 a5
noncomputable abbrev E (k : Nat) : FEnv := env (r09_SameCols.f k) 
theorem hE (k : Nat) : EnvOK (E k).toEnv := ctsOK (Lc (r09_SameCols.ok k) L0)
theorem ok (k : Nat) : CtOK prog 50 (ct (f k)) := fn_ok func50 rfl (by decide) (hE k) L0 (Lc ev L0)
end r09_Same
namespace r14_SameChange
def e (r : Bool) : Res := ⟨.v (.one (.d .bool r)), []⟩
abbrev T (δ : Type) : Type := D_api_Change → D_api_Change → Option δ
abbrev A {δ : Type} (g : T δ) : Arm δ := ⟨[.s T_api_Change, .s T_api_Change], [], fun x y => g x.1.1 x.2.1.1⟩
abbrev G : Type := T Bool
def ct (g : G) : Ct := mkCt 0 [] [A g] e
section
variable {β : Type} (g48 : r01_Texts.G) (g49 : r09_SameCol.G) (g50 : r09_Same.G)
noncomputable abbrev env : FEnv := mkEnv prog f22 [(48, r01_Texts.ct g48), (49, r09_SameCol.ct g49), (50, r09_Same.ct g50)] 0 [] []
def c (ret : Bool → Option β) (a0 a1 : D_api_Change) : Option β := (bif (a0.1 == a1.1) then (bif (a0.2.1.toList == a1.2.1.toList) then (bif (a0.2.2.1.toList == a1.2.2.1.toList) then (bif (a0.2.2.2.1.toList == a1.2.2.2.1.toList) then (bif (a0.2.2.2.2.1.toList == a1.2.2.2.2.1.toList) then (bif (a0.2.2.2.2.2.1.toList == a1.2.2.2.2.2.1.toList) then (bif (a0.2.2.2.2.2.2.1 == a1.2.2.2.2.2.2.1) then ((g48 a0.2.2.2.2.2.2.2.1 a1.2.2.2.2.2.2.2.1).bind fun r0 => (bif r0 then ((g49 a0.2.2.2.2.2.2.2.2.1.1 a0.2.2.2.2.2.2.2.2.1.2.1 a0.2.2.2.2.2.2.2.2.1.2.2.1 a0.2.2.2.2.2.2.2.2.1.2.2.2.1.1 a0.2.2.2.2.2.2.2.2.1.2.2.2.1.2.1 a0.2.2.2.2.2.2.2.2.1.2.2.2.1.2.2.1 a0.2.2.2.2.2.2.2.2.1.2.2.2.1.2.2.2.1 a1.2.2.2.2.2.2.2.2.1.1 a1.2.2.2.2.2.2.2.2.1.2.1 a1.2.2.2.2.2.2.2.2.1.2.2.1 a1.2.2.2.2.2.2.2.2.1.2.2.2.1.1 a1.2.2.2.2.2.2.2.2.1.2.2.2.1.2.1 a1.2.2.2.2.2.2.2.2.1.2.2.2.1.2.2.1 a1.2.2.2.2.2.2.2.2.1.2.2.2.1.2.2.2.1).bind fun r1 => (bif r1 then ((g50 a0.2.2.2.2.2.2.2.2.2.1.1 a0.2.2.2.2.2.2.2.2.2.1.2.1 a0.2.2.2.2.2.2.2.2.2.1.2.2.1 a1.2.2.2.2.2.2.2.2.2.1.1 a1.2.2.2.2.2.2.2.2.2.1.2.1 a1.2.2.2.2.2.2.2.2.2.1.2.2.1).bind fun r2 => (ret (r2))) else (ret (false)))) else (ret (false)))) else (ret (false))) else (ret (false))) else (ret (false))) else (ret (false))) else (ret (false))) else (ret (false))) else (ret (false)))
variable {g48} {g49} {g50}
theorem ev : EvA (env g48 g49 g50) [] [0, 1] e (A (c g48 g49 g50 some)) := fun x y => Eq.trans (b := (A (c g48 g49 g50 fun r => some (e r))).G x y) (by kernel_rfl) (by simp only [A, c, bo, so, oa, os, on, ofs])
end
def f (k : Nat) (a0 a1 : D_api_Change) : Option Bool := c (r01_Texts.f k) (r09_SameCol.f k) (r09_Same.f k) some a0 a1
noncomputable abbrev E (k : Nat) : FEnv := env (r01_Texts.f k) (r09_SameCol.f k) (r09_Same.f k) 
theorem hE (k : Nat) : EnvOK (E k).toEnv := ctsOK (Lc (r01_Texts.ok k) (Lc (r09_SameCol.ok k) (Lc (r09_Same.ok k) L0)))
theorem ok (k : Nat) : CtOK prog 22 (ct (f k)) := fn_ok func22 rfl (by decide) (hE k) L0 (Lc ev L0)
end r14_SameChange
namespace transomlaw37_Same
def e (r : Int) : Res := ⟨.v (.one (.d (.int .i64) r)), []⟩
abbrev T (δ : Type) : Type := D_api_Step → D_api_Step → Option δ
abbrev A {δ : Type} (g : T δ) : Arm δ := ⟨[.s T_api_Step, .s T_api_Step], [], fun x y => g x.1.1 x.2.1.1⟩
abbrev G : Type := T Int
def ct (g : G) : Ct := mkCt 0 [] [A g] e
section
variable {β : Type} (g21 : r06_Same.G) (g22 : r14_SameChange.G)
noncomputable abbrev env : FEnv := mkEnv prog f9 [(21, r06_Same.ct g21), (22, r14_SameChange.ct g22)] 0 [] []
def c (ret : Int → Option β) (a0 a1 : D_api_Step) : Option β := (bif (a0.1 != a1.1) then (ret ((0 : Int))) else (bif (a0.2.1 != a1.2.1) then (ret ((0 : Int))) else (bif (a0.2.2.1.1 != a1.2.2.1.1) then (ret ((0 : Int))) else (bif (!(a0.2.2.1.2.1.toList == a1.2.2.1.2.1.toList)) then (ret ((0 : Int))) else (bif (a0.2.2.1.2.2.2.2.2.1 != a1.2.2.1.2.2.2.2.2.1) then (ret ((0 : Int))) else ((g21 a0.2.2.1.2.2.1 a1.2.2.1.2.2.1).bind fun r0 => (bif (!r0) then (ret ((0 : Int))) else ((g21 a0.2.2.1.2.2.2.1 a1.2.2.1.2.2.2.1).bind fun r1 => (bif (!r1) then (ret ((0 : Int))) else ((g21 a0.2.2.1.2.2.2.2.1 a1.2.2.1.2.2.2.2.1).bind fun r2 => (bif (!r2) then (ret ((0 : Int))) else ((g22 a0.2.2.1.2.2.2.2.2.2.1 a1.2.2.1.2.2.2.2.2.2.1).bind fun r3 => (bif (!r3) then (ret ((0 : Int))) else (ret ((1 : Int))))))))))))))))
variable {g21} {g22}
theorem ev : EvA (env g21 g22) [] [0, 1] e (A (c g21 g22 some)) := fun x y => Eq.trans (b := (A (c g21 g22 fun r => some (e r))).G x y) (by kernel_rfl) (by simp only [A, c, bo, so, oa, os, on, ofs])
end
def f (k : Nat) (a0 a1 : D_api_Step) : Option Int := c (r06_Same.f k) (r14_SameChange.f k) some a0 a1
noncomputable abbrev E (k : Nat) : FEnv := env (r06_Same.f k) (r14_SameChange.f k) 
theorem hE (k : Nat) : EnvOK (E k).toEnv := ctsOK (Lc (r06_Same.ok k) (Lc (r14_SameChange.ok k) L0))
theorem ok (k : Nat) : CtOK prog 9 (ct (f k)) := fn_ok func9 rfl (by decide) (hE k) L0 (Lc ev L0)
end transomlaw37_Same
end Go.Proofs.YtimadphjdkjgaaaGreatDoor.Aev
/- By a program of this session (AEV): functions of the program as plain functions, and that the machine does what they say. -/
namespace Go.Proofs.YtimadphjdkjgaaaGreatDoor.Aev
set_option linter.unusedVariables false
set_option linter.unusedSimpArgs false
set_option maxRecDepth 100000
set_option maxHeartbeats 4000000
open Go Go.Proofs.Tryz
namespace r37_Parse
abbrev R : Type := (List D_api_Step) × Int × Int
def e (r : R) : Res := ⟨.tup [(.one (.d (.sl T_api_Step) r.1)), (.one (.d (.int .i64) r.2.1)), (.one (.d (.int .i64) r.2.2))], []⟩
abbrev T (δ : Type) : Type := ByteArray → Option δ
abbrev A {δ : Type} (g : T δ) : Arm δ := ⟨[.d .str], [], fun x y => g x.1⟩
abbrev G : Type := T R
def ct (g : G) : Ct := mkCt 0 [] [A g] e
abbrev S0 (δ : Type) : Type := ByteArray → Int → Int → Int → (List D_api_Step) → Option δ
abbrev A_0 {δ : Type} (s : S0 δ) : Arm δ := ⟨[.d .str, .k (.own 0), .d (.int .i64), .d (.int .i64), .d (.int .i64)], [.own T_api_Step false], fun x y => s x.1 x.2.2.1 x.2.2.2.1 x.2.2.2.2.1 y.1⟩
abbrev S1 (δ : Type) : Type := ByteArray → Int → Int → Int → Bool → (List D_api_Step) → Option δ
abbrev A_1 {δ : Type} (s : S1 δ) : Arm δ := ⟨[.d .str, .k (.own 0), .d (.int .i64), .d (.int .i64), .d (.int .i64), .d .bool], [.own T_api_Step false], fun x y => s x.1 x.2.2.1 x.2.2.2.1 x.2.2.2.2.1 x.2.2.2.2.2.1 y.1⟩
abbrev S2 (δ : Type) : Type := ByteArray → Int → Int → Int → (List D_api_Step) → Option δ
abbrev A_2 {δ : Type} (s : S2 δ) : Arm δ := ⟨[.d .str, .k (.own 0), .d (.int .i64), .d (.int .i64), .d (.int .i64)], [.own T_api_Step false], fun x y => s x.1 x.2.2.1 x.2.2.2.1 x.2.2.2.2.1 y.1⟩
abbrev S3 (δ : Type) : Type := ByteArray → Int → Int → Int → (List D_api_Step) → Option δ
abbrev A_3 {δ : Type} (s : S3 δ) : Arm δ := ⟨[.d .str, .k (.own 0), .d (.int .i64), .d (.int .i64), .d (.int .i64)], [.own T_api_Step false], fun x y => s x.1 x.2.2.1 x.2.2.2.1 x.2.2.2.2.1 y.1⟩
abbrev S4 (δ : Type) : Type := ByteArray → Int → Int → Int → (List D_api_Step) → Option δ
abbrev A_4 {δ : Type} (s : S4 δ) : Arm δ := ⟨[.d .str, .k (.own 0), .d (.int .i64), .d (.int .i64), .d (.int .i64)], [.own T_api_Step false], fun x y => s x.1 x.2.2.1 x.2.2.2.1 x.2.2.2.2.1 y.1⟩
def sg0 (s : S0 R) : Seg := mkSg [4, 1, 0, 1, 1, 1, 1] [.own 5 T_api_Step] [0, 5, 6, 7, 8] [A_0 s] e
def sg1 (s : S1 R) : Seg := mkSg [1, 0, 4, 0, 1, 5, 4, 1, 0, 1, 1, 1, 1] [] [0, 5, 6, 7, 8, 29] [A_1 s] e
def sg2 (s : S2 R) : Seg := mkSg [1, 4, 0, 1, 5, 4, 1, 0, 1, 1, 1, 1] [] [0, 5, 6, 7, 8] [A_2 s] e
def sg3 (s : S3 R) : Seg := mkSg [1, 1, 1, 1, 1, 1, 4, 0, 1, 5, 4, 1, 0, 1, 1, 1, 1] [.own 5 T_api_Step] [0, 5, 6, 7, 8] [A_3 s] e
def sg4 (s : S4 R) : Seg := mkSg [1, 1, 5, 4, 1, 0, 1, 1, 1, 1] [.own 5 T_api_Step] [0, 5, 6, 7, 8] [A_4 s] e
section
variable {β : Type} (g8 : r37_Read.G) (g19 : r36_Split.G) (s0 : S0 R) (s1 : S1 R) (s2 : S2 R) (s3 : S3 R) (s4 : S4 R)
noncomputable abbrev env : FEnv := mkEnv prog f11 [(8, r37_Read.ct g8), (19, r36_Split.ct g19)] 0 [] [sg0 s0, sg1 s1, sg2 s2, sg3 s3, sg4 s4]
def c (ret : R → Option β) (a0 : ByteArray) : Option β := ((s0 a0 (1 : Int) (0 : Int) (0 : Int) []).bind ret)
def s0c (ret : R → Option β) (x0 : ByteArray) (x1 x2 x3 : Int) (x4 : List D_api_Step) : Option β := (bif (decide (x3 ≤ (x0.size : Int))) then (bif (decide (x3 < (x0.size : Int))) then (bif ((decide ((0 : Int) ≤ x3)) && (decide (x3 < (x0.size : Int)))) then ((s1 x0 x1 x2 x3 ((bt x0 x3) != (10 : Int)) x4).bind ret) else none) else ((s1 x0 x1 x2 x3 false x4).bind ret)) else (ret (x4, (0 : Int), (0 : Int))))
def s1c (ret : R → Option β) (x0 : ByteArray) (x1 x2 x3 : Int) (x4 : Bool) (x5 : List D_api_Step) : Option β := (bif x4 then ((s4 x0 x1 x2 x3 x5).bind ret) else ((s2 x0 x1 x2 x3 x5).bind ret))
def s2c (ret : R → Option β) (x0 : ByteArray) (x1 x2 x3 : Int) (x4 : List D_api_Step) : Option β := (bif (((decide ((0 : Int) ≤ x2)) && (decide (x2 ≤ x3))) && (decide (x3 ≤ (x0.size : Int)))) then ((g19 (ByteArray.extract x0 (Int.toNat x2) (Int.toNat x3))).bind fun r0 => (bif (r0.2 != (0 : Int)) then (ret ([], x1, r0.2)) else (bif (decide ((r0.1.length : Int) > (0 : Int))) then ((g8 (ByteArray.extract x0 (Int.toNat x2) (Int.toNat x3))).bind fun r1 => (bif (r1.2 != (0 : Int)) then (ret ([], x1, r1.2)) else (bif (decide (((x4.length + (1 : Nat)) * (360 : Nat)) ≤ (35184372088832 : Nat))) then ((s3 x0 x1 (IntKind.wrap .i64 (x3 + (1 : Int))) x3 (x4 ++ [r1.1])).bind ret) else none))) else ((s3 x0 x1 (IntKind.wrap .i64 (x3 + (1 : Int))) x3 x4).bind ret)))) else none)
def s3c (ret : R → Option β) (x0 : ByteArray) (x1 x2 x3 : Int) (x4 : List D_api_Step) : Option β := ((s4 x0 (IntKind.wrap .i64 (x1 + (1 : Int))) x2 x3 x4).bind ret)
def s4c (ret : R → Option β) (x0 : ByteArray) (x1 x2 x3 : Int) (x4 : List D_api_Step) : Option β := ((s0 x0 x1 x2 (IntKind.wrap .i64 (x3 + (1 : Int))) x4).bind ret)
variable {g8} {g19} {s0} {s1} {s2} {s3} {s4}
theorem ev : EvA (env g8 g19 s0 s1 s2 s3 s4) [] [0] e (A (c s0 some)) := fun x y => Eq.trans (b := (A (c s0 fun r => some (e r))).G x y) (by kernel_rfl) (by simp only [A, c, bo, so, oa, os, on, ofs])
theorem s0_ev : EvA (env g8 g19 s0 s1 s2 s3 s4) [4, 1, 0, 1, 1, 1, 1] [0, 5, 6, 7, 8] e (A_0 (s0c s1 some)) := fun x y => Eq.trans (b := (A_0 (s0c s1 fun r => some (e r))).G x y) (by kernel_rfl) (by simp only [A_0, s0c, bo, so, oa, os, on, ofs])
theorem s1_ev : EvA (env g8 g19 s0 s1 s2 s3 s4) [1, 0, 4, 0, 1, 5, 4, 1, 0, 1, 1, 1, 1] [0, 5, 6, 7, 8, 29] e (A_1 (s1c s2 s4 some)) := fun x y => Eq.trans (b := (A_1 (s1c s2 s4 fun r => some (e r))).G x y) (by kernel_rfl) (by simp only [A_1, s1c, bo, so, oa, os, on, ofs])
theorem s2_ev : EvA (env g8 g19 s0 s1 s2 s3 s4) [1, 4, 0, 1, 5, 4, 1, 0, 1, 1, 1, 1] [0, 5, 6, 7, 8] e (A_2 (s2c g8 g19 s3 some)) := fun x y => Eq.trans (b := (A_2 (s2c g8 g19 s3 fun r => some (e r))).G x y) (by kernel_rfl) (by simp only [A_2, s2c, bo, so, oa, os, on, ofs])
theorem s3_ev : EvA (env g8 g19 s0 s1 s2 s3 s4) [1, 1, 1, 1, 1, 1, 4, 0, 1, 5, 4, 1, 0, 1, 1, 1, 1] [0, 5, 6, 7, 8] e (A_3 (s3c s4 some)) := fun x y => Eq.trans (b := (A_3 (s3c s4 fun r => some (e r))).G x y) (by kernel_rfl) (by simp only [A_3, s3c, bo, so, oa, os, on, ofs])
theorem s4_ev : EvA (env g8 g19 s0 s1 s2 s3 s4) [1, 1, 5, 4, 1, 0, 1, 1, 1, 1] [0, 5, 6, 7, 8] e (A_4 (s4c s0 some)) := fun x y => Eq.trans (b := (A_4 (s4c s0 fun r => some (e r))).G x y) (by kernel_rfl) (by simp only [A_4, s4c, bo, so, oa, os, on, ofs])
end
mutual
def s0 : Nat → S0 R
 | 0, _, _, _, _, _ => none
 | k + 1, x0, x1, x2, x3, x4 => s0c (s1 k) some x0 x1 x2 x3 x4
def s1 : Nat → S1 R
 | 0, _, _, _, _, _, _ => none
 | k + 1, x0, x1, x2, x3, x4, x5 => s1c (s2 k) (s4 k) some x0 x1 x2 x3 x4 x5
def s2 : Nat → S2 R
 | 0, _, _, _, _, _ => none
 | k + 1, x0, x1, x2, x3, x4 => s2c (r37_Read.f k) (r36_Split.f k) (s3 k) some x0 x1 x2 x3 x4
def s3 : Nat → S3 R
 | 0, _, _, _, _, _ => none
 | k + 1, x0, x1, x2, x3, x4 => s3c (s4 k) some x0 x1 x2 x3 x4
def s4 : Nat → S4 R
 | 0, _, _, _, _, _ => none
 | k + 1, x0, x1, x2, x3, x4 => s4c (s0 k) some x0 x1 x2 x3 x4
end
def f (k : Nat) (a0 : ByteArray) : Option R := c (s0 k) some a0
noncomputable abbrev E (k : Nat) : FEnv := env (r37_Read.f k) (r36_Split.f k) (s0 k) (s1 k) (s2 k) (s3 k) (s4 k)
theorem hE (k : Nat) : EnvOK (E k).toEnv := ctsOK (Lc (r37_Read.ok k) (Lc (r36_Split.ok k) L0))
theorem sk : ∀ k, ∀ s ∈ [sg0 (s0 k), sg1 (s1 k), sg2 (s2 k), sg3 (s3 k), sg4 (s4 k)], SegB prog f11 0 s
 | 0 => (Lc (sn (Lc (fun _ _ => rfl) L0)) (Lc (sn (Lc (fun _ _ => rfl) L0)) (Lc (sn (Lc (fun _ _ => rfl) L0)) (Lc (sn (Lc (fun _ _ => rfl) L0)) (Lc (sn (Lc (fun _ _ => rfl) L0)) L0)))))
 | k + 1 => (Lc (sg_ok (hE k) (sk k) (Lc s0_ev L0)) (Lc (sg_ok (hE k) (sk k) (Lc s1_ev L0)) (Lc (sg_ok (hE k) (sk k) (Lc s2_ev L0)) (Lc (sg_ok (hE k) (sk k) (Lc s3_ev L0)) (Lc (sg_ok (hE k) (sk k) (Lc s4_ev L0)) L0)))))
theorem ok (k : Nat) : CtOK prog 11 (ct (f k)) := fn_ok func11 rfl (by decide) (hE k) (sk k) (Lc ev L0)
end r37_Parse
end Go.Proofs.YtimadphjdkjgaaaGreatDoor.Aev
