import Derived.Test.YtimadphjdkjgaaaGreatDoorTys
import Derived.Test.YtimadphjdkjgaaaGreatDoorProg
import Derived.Laws.Externs
import Derived.Lib.Bytealg
import Derived.Test.YtimadphjdkjgaaaGreatDoorF13
import Derived.Test.YtimadphjdkjgaaaGreatDoorF5
import Derived.Test.YtimadphjdkjgaaaGreatDoorF6
import Derived.Test.YtimadphjdkjgaaaGreatDoorAevX
import Derived.Laws.BitsAllLaws
/- By a program of this session (AEV): functions of the program as plain functions, and that the machine does what they say. -/
namespace Go.Proofs.YtimadphjdkjgaaaGreatDoor.Aev
set_option linter.unusedVariables false
set_option linter.unusedSimpArgs false
set_option maxRecDepth 100000
set_option maxHeartbeats 4000000
open Go Go.Proofs.Tryz
namespace transomref09_SameCol
def e (r : Bool) : Res := ⟨.v (.one (.d .bool r)), []⟩
abbrev T (δ : Type) : Type := ByteArray → Int → Bool → Int → Int → Int → ByteArray → ByteArray → Int → Bool → Int → Int → Int → ByteArray → Option δ
abbrev A {δ : Type} (g : T δ) : Arm δ := ⟨[.s T_api_Col, .s T_api_Col], [], fun x y => g x.1.1.1 x.1.1.2.1 x.1.1.2.2.1 x.1.1.2.2.2.1.1 x.1.1.2.2.2.1.2.1 x.1.1.2.2.2.1.2.2.1 x.1.1.2.2.2.1.2.2.2.1 x.2.1.1.1 x.2.1.1.2.1 x.2.1.1.2.2.1 x.2.1.1.2.2.2.1.1 x.2.1.1.2.2.2.1.2.1 x.2.1.1.2.2.2.1.2.2.1 x.2.1.1.2.2.2.1.2.2.2.1⟩
abbrev G : Type := T Bool
def ct (g : G) : Ct := mkCt 0 [] [A g] e
section
variable {β : Type} (g78 : transomref04_Same.G)
noncomputable abbrev env : FEnv := mkEnv prog f49 [(78, transomref04_Same.ct g78)] 0 [] []
def c (ret : Bool → Option β) (a0 : ByteArray) (a1 : Int) (a2 : Bool) (a3 : Int) (a4 : Int) (a5 : Int) (a6 : ByteArray) (a7 : ByteArray) (a8 : Int) (a9 : Bool) (a10 : Int) (a11 : Int) (a12 : Int) (a13 : ByteArray) : Option β := (bif (a0.toList == a7.toList) then (bif (a1 == a8) then (bif (a2 == a9) then ((g78 a3 a4 a5 a6 a10 a11 a12 a13).bind fun r0 => (ret (r0))) else (ret (false))) else (ret (false))) else (ret (false)))
variable {g78}
theorem ev : EvA (env g78) [] [0, 1] e (A (c g78 some)) := fun x y => Eq.trans (b := (A (c g78 fun r => some (e r))).G x y) (by kernel_rfl) (by simp only [A, c, bo, so, oa, os, on, ofs])
end
def f (k : Nat) (a0 : ByteArray) (a1 : Int) (a2 : Bool) (a3 : Int) (a4 : Int) (a5 : Int) (a6 : ByteArray) (a7 : ByteArray) (a8 : Int) (a9 : Bool) (a10 : Int) (a11 : Int) (a12 : Int) (a13 : ByteArray) : Option Bool := c (transomref04_Same.f k) some a0 a1 a2 a3 a4 a5 a6 a7 a8 a9 a10 a11 a12 a13
noncomputable abbrev E (k : Nat) : FEnv := env (transomref04_Same.f k) 
theorem hE (k : Nat) : EnvOK (E k).toEnv := ctsOK (Lc (transomref04_Same.ok k) L0)
theorem ok (k : Nat) : CtOK prog 49 (ct (f k)) := fn_ok func49 rfl (by decide) (hE k) L0 (Lc ev L0)
end transomref09_SameCol
namespace transomref09_SameCols
def e (r : Bool) : Res := ⟨.v (.one (.d .bool r)), []⟩
abbrev T (δ : Type) : Type := (List D_api_Col) → (List D_api_Col) → Option δ
abbrev A {δ : Type} (g : T δ) : Arm δ := ⟨[.d (.sl T_api_Col), .d (.sl T_api_Col)], [], fun x y => g x.1 x.2.1⟩
abbrev G : Type := T Bool
def ct (g : G) : Ct := mkCt 0 [] [A g] e
abbrev S0 (δ : Type) : Type := (List D_api_Col) → (List D_api_Col) → Int → Option δ
abbrev A_0 {δ : Type} (s : S0 δ) : Arm δ := ⟨[.d (.sl T_api_Col), .d (.sl T_api_Col), .d (.int .i64)], [], fun x y => s x.1 x.2.1 x.2.2.1⟩
def sg0 (s : S0 Bool) : Seg := mkSg [4, 1, 0, 1, 1] [] [0, 1, 5] [A_0 s] e
section
variable {β : Type} (g49 : transomref09_SameCol.G) (s0 : S0 Bool)
noncomputable abbrev env : FEnv := mkEnv prog f79 [(49, transomref09_SameCol.ct g49)] 0 [] [sg0 s0]
def c (ret : Bool → Option β) (a0 : List D_api_Col) (a1 : List D_api_Col) : Option β := (bif ((a0.length : Int) != (a1.length : Int)) then (ret (false)) else ((s0 a0 a1 (0 : Int)).bind ret))
def s0c (ret : Bool → Option β) (x0 : List D_api_Col) (x1 : List D_api_Col) (x2 : Int) : Option β := (bif (decide (x2 < (x0.length : Int))) then (bif ((decide ((0 : Int) ≤ x2)) && (decide (x2 < (x0.length : Int)))) then (bif ((decide ((0 : Int) ≤ x2)) && (decide (x2 < (x1.length : Int)))) then ((g49 (elem T_api_Col x0 x2).1 (elem T_api_Col x0 x2).2.1 (elem T_api_Col x0 x2).2.2.1 (elem T_api_Col x0 x2).2.2.2.1.1 (elem T_api_Col x0 x2).2.2.2.1.2.1 (elem T_api_Col x0 x2).2.2.2.1.2.2.1 (elem T_api_Col x0 x2).2.2.2.1.2.2.2.1 (elem T_api_Col x1 x2).1 (elem T_api_Col x1 x2).2.1 (elem T_api_Col x1 x2).2.2.1 (elem T_api_Col x1 x2).2.2.2.1.1 (elem T_api_Col x1 x2).2.2.2.1.2.1 (elem T_api_Col x1 x2).2.2.2.1.2.2.1 (elem T_api_Col x1 x2).2.2.2.1.2.2.2.1).bind fun r0 => (bif (!r0) then (ret (false)) else ((s0 x0 x1 (IntKind.wrap .i64 (x2 + (1 : Int)))).bind ret))) else none) else none) else (ret (true)))
variable {g49} {s0}
theorem ev : EvA (env g49 s0) [] [0, 1] e (A (c s0 some)) := fun x y => Eq.trans (b := (A (c s0 fun r => some (e r))).G x y) (by kernel_rfl) (by simp only [A, c, bo, so, oa, os, on, ofs])
theorem s0_ev : EvA (env g49 s0) [4, 1, 0, 1, 1] [0, 1, 5] e (A_0 (s0c g49 s0 some)) := fun x y => Eq.trans (b := (A_0 (s0c g49 s0 fun r => some (e r))).G x y) (by kernel_rfl) (by simp only [A_0, s0c, bo, so, oa, os, on, ofs])
end
def s0 : Nat → S0 Bool
 | 0, _, _, _ => none
 | k + 1, x0, x1, x2 => s0c (transomref09_SameCol.f k) (s0 k) some x0 x1 x2
def f (k : Nat) (a0 : List D_api_Col) (a1 : List D_api_Col) : Option Bool := c (s0 k) some a0 a1
noncomputable abbrev E (k : Nat) : FEnv := env (transomref09_SameCol.f k) (s0 k)
theorem hE (k : Nat) : EnvOK (E k).toEnv := ctsOK (Lc (transomref09_SameCol.ok k) L0)
theorem sk : ∀ k, ∀ s ∈ [sg0 (s0 k)], SegB prog f79 0 s
 | 0 => (Lc (sn (Lc (fun _ _ => rfl) L0)) L0)
 | k + 1 => (Lc (sg_ok (hE k) (sk k) (Lc s0_ev L0)) L0)
theorem ok (k : Nat) : CtOK prog 79 (ct (f k)) := fn_ok func79 rfl (by decide) (hE k) (sk k) (Lc ev L0)
end transomref09_SameCols
namespace transomref09_Same
def e (r : Bool) : Res := ⟨.v (.one (.d .bool r)), []⟩
abbrev T (δ : Type) : Type := ByteArray → Int → (List D_api_Col) → ByteArray → Int → (List D_api_Col) → Option δ
abbrev A {δ : Type} (g : T δ) : Arm δ := ⟨[.s T_api_Table, .s T_api_Table], [], fun x y => g x.1.1.1 x.1.1.2.1 x.1.1.2.2.1 x.2.1.1.1 x.2.1.1.2.1 x.2.1.1.2.2.1⟩
abbrev G : Type := T Bool
def ct (g : G) : Ct := mkCt 0 [] [A g] e
section
variable {β : Type} (g79 : transomref09_SameCols.G)
noncomputable abbrev env : FEnv := mkEnv prog f50 [(79, transomref09_SameCols.ct g79)] 0 [] []
def c (ret : Bool → Option β) (a0 : ByteArray) (a1 : Int) (a2 : List D_api_Col) (a3 : ByteArray) (a4 : Int) (a5 : List D_api_Col) : Option β := (bif (a0.toList == a3.toList) then (bif (a1 == a4) then ((g79 a2 a5).bind fun r0 => (ret (r0))) else (ret (false))) else (ret (false)))
variable {g79}
theorem ev : EvA (env g79) [] [0, 1] e (A (c g79 some)) := fun x y => Eq.trans (b := (A (c g79 fun r => some (e r))).G x y) (by kernel_rfl) (by simp only [A, c, bo, so, oa, os, on, ofs])
end
def f (k : Nat) (a0 : ByteArray) (a1 : Int) (a2 : List D_api_Col) (a3 : ByteArray) (a4 : Int) (a5 : List D_api_Col) : Option Bool := c (transomref09_SameCols.f k) some a0 a1 a2 a3 a4 a5
noncomputable abbrev E (k : Nat) : FEnv := env (transomref09_SameCols.f k) 
theorem hE (k : Nat) : EnvOK (E k).toEnv := ctsOK (Lc (transomref09_SameCols.ok k) L0)
theorem ok (k : Nat) : CtOK prog 50 (ct (f k)) := fn_ok func50 rfl (by decide) (hE k) L0 (Lc ev L0)
end transomref09_Same
namespace transomref14_SameChange
def e (r : Bool) : Res := ⟨.v (.one (.d .bool r)), []⟩
abbrev T (δ : Type) : Type := D_api_Change → D_api_Change → Option δ
abbrev A {δ : Type} (g : T δ) : Arm δ := ⟨[.s T_api_Change, .s T_api_Change], [], fun x y => g x.1.1 x.2.1.1⟩
abbrev G : Type := T Bool
def ct (g : G) : Ct := mkCt 0 [] [A g] e
section
variable {β : Type} (g48 : transomref01_Texts.G) (g49 : transomref09_SameCol.G) (g50 : transomref09_Same.G)
noncomputable abbrev env : FEnv := mkEnv prog f22 [(48, transomref01_Texts.ct g48), (49, transomref09_SameCol.ct g49), (50, transomref09_Same.ct g50)] 0 [] []
def c (ret : Bool → Option β) (a0 : D_api_Change) (a1 : D_api_Change) : Option β := (bif (a0.1 == a1.1) then (bif (a0.2.1.toList == a1.2.1.toList) then (bif (a0.2.2.1.toList == a1.2.2.1.toList) then (bif (a0.2.2.2.1.toList == a1.2.2.2.1.toList) then (bif (a0.2.2.2.2.1.toList == a1.2.2.2.2.1.toList) then (bif (a0.2.2.2.2.2.1.toList == a1.2.2.2.2.2.1.toList) then (bif (a0.2.2.2.2.2.2.1 == a1.2.2.2.2.2.2.1) then ((g48 a0.2.2.2.2.2.2.2.1 a1.2.2.2.2.2.2.2.1).bind fun r0 => (bif r0 then ((g49 a0.2.2.2.2.2.2.2.2.1.1 a0.2.2.2.2.2.2.2.2.1.2.1 a0.2.2.2.2.2.2.2.2.1.2.2.1 a0.2.2.2.2.2.2.2.2.1.2.2.2.1.1 a0.2.2.2.2.2.2.2.2.1.2.2.2.1.2.1 a0.2.2.2.2.2.2.2.2.1.2.2.2.1.2.2.1 a0.2.2.2.2.2.2.2.2.1.2.2.2.1.2.2.2.1 a1.2.2.2.2.2.2.2.2.1.1 a1.2.2.2.2.2.2.2.2.1.2.1 a1.2.2.2.2.2.2.2.2.1.2.2.1 a1.2.2.2.2.2.2.2.2.1.2.2.2.1.1 a1.2.2.2.2.2.2.2.2.1.2.2.2.1.2.1 a1.2.2.2.2.2.2.2.2.1.2.2.2.1.2.2.1 a1.2.2.2.2.2.2.2.2.1.2.2.2.1.2.2.2.1).bind fun r1 => (bif r1 then ((g50 a0.2.2.2.2.2.2.2.2.2.1.1 a0.2.2.2.2.2.2.2.2.2.1.2.1 a0.2.2.2.2.2.2.2.2.2.1.2.2.1 a1.2.2.2.2.2.2.2.2.2.1.1 a1.2.2.2.2.2.2.2.2.2.1.2.1 a1.2.2.2.2.2.2.2.2.2.1.2.2.1).bind fun r2 => (ret (r2))) else (ret (false)))) else (ret (false)))) else (ret (false))) else (ret (false))) else (ret (false))) else (ret (false))) else (ret (false))) else (ret (false))) else (ret (false)))
variable {g48} {g49} {g50}
theorem ev : EvA (env g48 g49 g50) [] [0, 1] e (A (c g48 g49 g50 some)) := fun x y => Eq.trans (b := (A (c g48 g49 g50 fun r => some (e r))).G x y) (by kernel_rfl) (by simp only [A, c, bo, so, oa, os, on, ofs])
end
def f (k : Nat) (a0 : D_api_Change) (a1 : D_api_Change) : Option Bool := c (transomref01_Texts.f k) (transomref09_SameCol.f k) (transomref09_Same.f k) some a0 a1
noncomputable abbrev E (k : Nat) : FEnv := env (transomref01_Texts.f k) (transomref09_SameCol.f k) (transomref09_Same.f k) 
theorem hE (k : Nat) : EnvOK (E k).toEnv := ctsOK (Lc (transomref01_Texts.ok k) (Lc (transomref09_SameCol.ok k) (Lc (transomref09_Same.ok k) L0)))
theorem ok (k : Nat) : CtOK prog 22 (ct (f k)) := fn_ok func22 rfl (by decide) (hE k) L0 (Lc ev L0)
end transomref14_SameChange
namespace transomlaw37_Same
def e (r : Int) : Res := ⟨.v (.one (.d (.int .i64) r)), []⟩
abbrev T (δ : Type) : Type := D_api_Step → D_api_Step → Option δ
abbrev A {δ : Type} (g : T δ) : Arm δ := ⟨[.s T_api_Step, .s T_api_Step], [], fun x y => g x.1.1 x.2.1.1⟩
abbrev G : Type := T Int
def ct (g : G) : Ct := mkCt 0 [] [A g] e
section
variable {β : Type} (g21 : transomref06_Same.G) (g22 : transomref14_SameChange.G)
noncomputable abbrev env : FEnv := mkEnv prog f9 [(21, transomref06_Same.ct g21), (22, transomref14_SameChange.ct g22)] 0 [] []
def c (ret : Int → Option β) (a0 : D_api_Step) (a1 : D_api_Step) : Option β := (bif (a0.1 != a1.1) then (ret ((0 : Int))) else (bif (a0.2.1 != a1.2.1) then (ret ((0 : Int))) else (bif (a0.2.2.1.1 != a1.2.2.1.1) then (ret ((0 : Int))) else (bif (!(a0.2.2.1.2.1.toList == a1.2.2.1.2.1.toList)) then (ret ((0 : Int))) else (bif (a0.2.2.1.2.2.2.2.2.1 != a1.2.2.1.2.2.2.2.2.1) then (ret ((0 : Int))) else ((g21 a0.2.2.1.2.2.1 a1.2.2.1.2.2.1).bind fun r0 => (bif (!r0) then (ret ((0 : Int))) else ((g21 a0.2.2.1.2.2.2.1 a1.2.2.1.2.2.2.1).bind fun r1 => (bif (!r1) then (ret ((0 : Int))) else ((g21 a0.2.2.1.2.2.2.2.1 a1.2.2.1.2.2.2.2.1).bind fun r2 => (bif (!r2) then (ret ((0 : Int))) else ((g22 a0.2.2.1.2.2.2.2.2.2.1 a1.2.2.1.2.2.2.2.2.2.1).bind fun r3 => (bif (!r3) then (ret ((0 : Int))) else (ret ((1 : Int))))))))))))))))
variable {g21} {g22}
theorem ev : EvA (env g21 g22) [] [0, 1] e (A (c g21 g22 some)) := fun x y => Eq.trans (b := (A (c g21 g22 fun r => some (e r))).G x y) (by kernel_rfl) (by simp only [A, c, bo, so, oa, os, on, ofs])
end
def f (k : Nat) (a0 : D_api_Step) (a1 : D_api_Step) : Option Int := c (transomref06_Same.f k) (transomref14_SameChange.f k) some a0 a1
noncomputable abbrev E (k : Nat) : FEnv := env (transomref06_Same.f k) (transomref14_SameChange.f k) 
theorem hE (k : Nat) : EnvOK (E k).toEnv := ctsOK (Lc (transomref06_Same.ok k) (Lc (transomref14_SameChange.ok k) L0))
theorem ok (k : Nat) : CtOK prog 9 (ct (f k)) := fn_ok func9 rfl (by decide) (hE k) L0 (Lc ev L0)
end transomlaw37_Same
end Go.Proofs.YtimadphjdkjgaaaGreatDoor.Aev
/- By a program of this session (AEV): functions of the program as plain functions, and that the machine does what they say. -/
namespace Go.Proofs.YtimadphjdkjgaaaGreatDoor.Aev
set_option linter.unusedVariables false
set_option linter.unusedSimpArgs false
set_option maxRecDepth 100000
set_option maxHeartbeats 4000000
open Go Go.Proofs.Tryz
namespace transomlaw37_StoryReads
def e (r : Bool) : Res := ⟨.v (.one (.d .bool r)), []⟩
abbrev T (δ : Type) : Type := ByteArray → Option δ
abbrev A {δ : Type} (g : T δ) : Arm δ := ⟨[.d .str], [], fun x y => g x.1⟩
abbrev G : Type := T Bool
def ct (g : G) : Ct := mkCt 0 [] [A g] e
section
variable {β : Type} (g6 : transomlaw37_awake.G) (g7 : story_Read.G) (g8 : transomref37_Read.G) (g9 : transomlaw37_Same.G)
noncomputable abbrev env : FEnv := mkEnv prog f3 [(6, transomlaw37_awake.ct g6), (7, story_Read.ct g7), (8, transomref37_Read.ct g8), (9, transomlaw37_Same.ct g9)] 0 [] []
def c (ret : Bool → Option β) (a0 : ByteArray) : Option β := (bif (decide ((a0.size : Int) > (2000 : Int))) then (g6.bind fun r0 => (ret (r0))) else ((g7 a0).bind fun r1 => ((g8 a0).bind fun r2 => ((g9 r1.1 r2.1).bind fun r3 => (bif (r3 == (1 : Int)) then (bif (r1.2 == r2.2) then (g6.bind fun r4 => (ret (r4))) else (ret (false))) else (ret (false)))))))
variable {g6} {g7} {g8} {g9}
theorem ev : EvA (env g6 g7 g8 g9) [] [0] e (A (c g6 g7 g8 g9 some)) := fun x y => Eq.trans (b := (A (c g6 g7 g8 g9 fun r => some (e r))).G x y) (by kernel_rfl) (by simp only [A, c, bo, so, oa, os, on, ofs])
end
def f (k : Nat) (a0 : ByteArray) : Option Bool := c (transomlaw37_awake.f k) (story_Read.f k) (transomref37_Read.f k) (transomlaw37_Same.f k) some a0
noncomputable abbrev E (k : Nat) : FEnv := env (transomlaw37_awake.f k) (story_Read.f k) (transomref37_Read.f k) (transomlaw37_Same.f k) 
theorem hE (k : Nat) : EnvOK (E k).toEnv := ctsOK (Lc (transomlaw37_awake.ok k) (Lc (story_Read.ok k) (Lc (transomref37_Read.ok k) (Lc (transomlaw37_Same.ok k) L0))))
theorem ok (k : Nat) : CtOK prog 3 (ct (f k)) := fn_ok func3 rfl (by decide) (hE k) L0 (Lc ev L0)
end transomlaw37_StoryReads
end Go.Proofs.YtimadphjdkjgaaaGreatDoor.Aev

/- Plain lemmas: strings as lists of bytes, numbers within bounds. No program here. -/
namespace Go.Proofs.YtimadphjdkjgaaaGreatDoor.Aev
open Go
set_option linter.unusedVariables false
set_option linter.unusedSimpArgs false
theorem i64w {n : Int} (h0 : -9223372036854775808 ≤ n) (h1 : n ≤ 9223372036854775807) : IntKind.wrap .i64 n = n := by
 rw [IntKind.wrap_i64]; omega
theorem u64w {n : Int} (h0 : 0 ≤ n) (h1 : n < 18446744073709551616) : IntKind.wrap .u64 n = n := by
 simp [IntKind.wrap, IntKind.bits, IntKind.signed]; omega
theorem u8w {n : Int} (h0 : 0 ≤ n) (h1 : n < 256) : IntKind.wrap .u8 n = n := by
 simp [IntKind.wrap, IntKind.bits, IntKind.signed]; omega
theorem u64m (n : Int) : IntKind.wrap .u64 n = n % 18446744073709551616 := by
 simp [IntKind.wrap, IntKind.bits, IntKind.signed]
theorem if_b {α : Type} {c : Bool} {x y : α} : (bif c then x else y) = if c = true then x else y := by cases c <;> rfl
theorem toList_inj {a b : ByteArray} (h : a.toList = b.toList) : a = b := by
 rw [ByteArray.toList_eq, ByteArray.toList_eq] at h
 exact ba_ext h
theorem toList_iff {a b : ByteArray} : a.toList = b.toList ↔ a = b := ⟨toList_inj, fun h => by rw [h]⟩
theorem size_eq (s : ByteArray) : s.size = s.data.toList.length := rfl
theorem append_data (a b : ByteArray) : (a ++ b).data.toList = a.data.toList ++ b.data.toList := by simp
theorem extract_data (s : ByteArray) (a b : Nat) : (s.extract a b).data.toList = (s.data.toList.drop a).take (b - a) := by
 simp [ByteArray.data_extract, List.extract_eq_take_drop]
theorem drop_data (s : ByteArray) (a : Nat) : (s.extract a s.size).data.toList = s.data.toList.drop a := by
 rw [extract_data, List.take_of_length_le]; rw [List.length_drop, ← size_eq]; exact Nat.le_refl _
theorem drop_data' (s : ByteArray) (a : Nat) : (s.extract a (Int.toNat (s.size : Int))).data.toList = s.data.toList.drop a := drop_data s a
theorem bt_nat (s : ByteArray) (i : Nat) (h : i < s.data.toList.length) : bt s (i : Int) = ((s.data.toList[i]).toNat : Int) := by
 have h' : i < s.data.size := h
 simp [bt, Array.getElem?_eq_getElem h']
abbrev b8 (n : Int) : UInt8 := UInt8.ofNat n.toNat
theorem b8_eta (c : UInt8) : b8 (c.toNat : Int) = c := by simp [b8]
theorem data_nil {s : ByteArray} : s.data.toList = [] ↔ s = ByteArray.mk (List.toArray []) := ⟨fun h => ba_ext (by rw [h]), fun h => by rw [h]⟩
end Go.Proofs.YtimadphjdkjgaaaGreatDoor.Aev

/- Bits of 64-bit numbers as arithmetic. No program here. -/
namespace Go.Proofs.YtimadphjdkjgaaaGreatDoor.Aev
open Go
set_option linter.unusedVariables false
set_option linter.unusedSimpArgs false

theorem and_mask {n m j : Nat} (hm : m = 2 ^ j - 1) (h : n < 18446744073709551616) (hj : m < 18446744073709551616) : Go.bits .and .u64 (n : Int) (m : Int) = ((n % 2 ^ j : Nat) : Int) := by
 have h1 := Go.u64_and_nat n m h hj
 rw [h1, hm, Nat.and_two_pow_sub_one_eq_mod]
theorem and_52 {n : Nat} (h : n < 18446744073709551616) : Go.bits .and .u64 (n : Int) 4503599627370495 = ((n % 4503599627370496 : Nat) : Int) :=
 and_mask (m := 4503599627370495) (j := 52) rfl h (by omega)
theorem and_11 {n : Nat} (h : n < 18446744073709551616) : Go.bits .and .u64 (n : Int) 2047 = ((n % 2048 : Nat) : Int) :=
 and_mask (m := 2047) (j := 11) rfl h (by omega)
theorem or_sum {a b j : Nat} (hb : b < 2 ^ j) (h : a * 2 ^ j + b < 18446744073709551616) : Go.bits .or .u64 ((a * 2 ^ j : Nat) : Int) (b : Int) = ((a * 2 ^ j + b : Nat) : Int) := by
 rw [Go.u64_or_nat (a * 2 ^ j) b (by omega) (by omega)]
 have := Nat.two_pow_add_eq_or_of_lt hb a
 rw [Nat.mul_comm a, ← this]
/- the same, as the evaluator prints it -/
theorem a52 {n : Nat} (h : n < 18446744073709551616) : IntKind.wrap IntKind.u64 ((BitVec.toNat ((BitVec.ofInt (64 : Nat) (n : Int)) &&& (BitVec.ofInt (64 : Nat) (4503599627370495 : Int)))) : Int) = ((n % 4503599627370496 : Nat) : Int) := and_52 h
theorem a11 {n : Nat} (h : n < 18446744073709551616) : IntKind.wrap IntKind.u64 ((BitVec.toNat ((BitVec.ofInt (64 : Nat) (n : Int)) &&& (BitVec.ofInt (64 : Nat) (2047 : Int)))) : Int) = ((n % 2048 : Nat) : Int) := and_11 h
end Go.Proofs.YtimadphjdkjgaaaGreatDoor.Aev

/- Plain lemmas: strings in the form of their lists of bytes. No program here. -/
namespace Go.Proofs.YtimadphjdkjgaaaGreatDoor.Aev
open Go
set_option linter.unusedVariables false
set_option linter.unusedSimpArgs false
theorem ba_of (s : ByteArray) : s = ByteArray.mk (List.toArray s.data.toList) := ba_ext rfl
theorem ba_size (l : List UInt8) : (ByteArray.mk (List.toArray l)).size = l.length := rfl
theorem ba_data (l : List UInt8) : (ByteArray.mk (List.toArray l)).data.toList = l := rfl
theorem ba_toList (l : List UInt8) : (ByteArray.mk (List.toArray l)).toList = l := by rw [ByteArray.toList_eq]
theorem ba_append (l m : List UInt8) : ByteArray.mk (List.toArray l) ++ ByteArray.mk (List.toArray m) = ByteArray.mk (List.toArray (l ++ m)) := ba_ext (by rw [append_data])
theorem ba_extract (l : List UInt8) (a b : Nat) : (ByteArray.mk (List.toArray l)).extract a b = ByteArray.mk (List.toArray ((l.drop a).take (b - a))) := ba_ext (by rw [extract_data])
theorem ba_drop (l : List UInt8) (a : Nat) : (ByteArray.mk (List.toArray l)).extract a (Int.toNat ((ByteArray.mk (List.toArray l)).size : Int)) = ByteArray.mk (List.toArray (l.drop a)) := ba_ext (by rw [drop_data'])
theorem ba_dropl (l : List UInt8) (a : Nat) : (ByteArray.mk (List.toArray l)).extract a (Int.toNat (l.length : Int)) = ByteArray.mk (List.toArray (l.drop a)) := ba_drop l a
theorem ba_inj {l m : List UInt8} : ByteArray.mk (List.toArray l) = ByteArray.mk (List.toArray m) ↔ l = m := ⟨fun h => congrArg (fun s => s.data.toList) h, fun h => by rw [h]⟩
theorem ba_bt (l : List UInt8) (i : Nat) (h : i < l.length) : bt (ByteArray.mk (List.toArray l)) (i : Int) = ((l[i]).toNat : Int) := bt_nat _ i h
theorem ba_bt0 (c : UInt8) (t : List UInt8) : bt (ByteArray.mk (List.toArray (c :: t))) 0 = (c.toNat : Int) := rfl
end Go.Proofs.YtimadphjdkjgaaaGreatDoor.Aev
