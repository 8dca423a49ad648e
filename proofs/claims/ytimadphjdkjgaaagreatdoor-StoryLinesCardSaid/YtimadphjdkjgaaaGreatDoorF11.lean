/- By a program of this session (AEV): functions of the program as plain functions, and that the machine does what they say. -/
import Derived.Test.YtimadphjdkjgaaaGreatDoorTys
import Derived.Test.YtimadphjdkjgaaaGreatDoorProg
import Derived.Laws.Externs
import Derived.Lib.Bytealg
import Derived.Test.YtimadphjdkjgaaaGreatDoorF2
import Derived.Test.YtimadphjdkjgaaaGreatDoorF6
import Derived.Test.YtimadphjdkjgaaaGreatDoorF7
import Derived.Test.YtimadphjdkjgaaaGreatDoorF10
namespace Go.Proofs.YtimadphjdkjgaaaGreatDoor.Aev
set_option linter.unusedVariables false
set_option linter.unusedSimpArgs false
set_option maxRecDepth 100000
set_option maxHeartbeats 4000000
open Go Go.Proofs.Tryz
namespace transomlaw37_StoryLines
def e (r : Bool) : Res := ⟨.v (.one (.d .bool r)), []⟩
abbrev T (δ : Type) : Type := D_api_Step → Option δ
abbrev A {δ : Type} (g : T δ) : Arm δ := ⟨[.s T_api_Step], [], fun x y => g x.1.1⟩
abbrev G : Type := T Bool
def ct (g : G) : Ct := mkCt 0 [] [A g] e
section
variable {β : Type} (g6 : transomlaw37_awake.G) (g12 : transomlaw13_FewOp.G) (g13 : story_Line.G) (g14 : transomref37_Line.G) (g15 : story_Change.G) (g16 : transomref37_Change.G)
noncomputable abbrev env : FEnv := mkEnv prog f5 [(6, transomlaw37_awake.ct g6), (12, transomlaw13_FewOp.ct g12), (13, story_Line.ct g13), (14, transomref37_Line.ct g14), (15, story_Change.ct g15), (16, transomref37_Change.ct g16)] 0 [] []
def c (ret : Bool → Option β) (a0 : D_api_Step) : Option β := ((g12 a0.2.2.1).bind fun r0 => (bif (r0 == (0 : Int)) then (g6.bind fun r1 => (ret (r1))) else ((g13 a0).bind fun r2 => ((g14 a0).bind fun r3 => ((g15 a0.2.2.1.2.2.2.2.2.2.1).bind fun r4 => ((g16 a0.2.2.1.2.2.2.2.2.2.1).bind fun r5 => (bif (r2.1.toList == r3.1.toList) then (bif (r2.2 == r3.2) then (bif (r4.1.toList == r5.1.toList) then (bif (r4.2 == r5.2) then (g6.bind fun r6 => (ret (r6))) else (ret (false))) else (ret (false))) else (ret (false))) else (ret (false)))))))))
variable {g6} {g12} {g13} {g14} {g15} {g16}
theorem ev : EvA (env g6 g12 g13 g14 g15 g16) [] [0] e (A (c g6 g12 g13 g14 g15 g16 some)) := fun x y => Eq.trans (b := (A (c g6 g12 g13 g14 g15 g16 fun r => some (e r))).G x y) (by kernel_rfl) (by simp only [A, c, bif_bind, sum_bind, oa, os, on, ofs])
end
def f (k : Nat) (a0 : D_api_Step) : Option Bool := c (transomlaw37_awake.f k) (transomlaw13_FewOp.f k) (story_Line.f k) (transomref37_Line.f k) (story_Change.f k) (transomref37_Change.f k) some a0
noncomputable abbrev E (k : Nat) : FEnv := env (transomlaw37_awake.f k) (transomlaw13_FewOp.f k) (story_Line.f k) (transomref37_Line.f k) (story_Change.f k) (transomref37_Change.f k) 
theorem hE (k : Nat) : EnvOK (E k).toEnv := ctsOK (Lc (transomlaw37_awake.ok k) (Lc (transomlaw13_FewOp.ok k) (Lc (story_Line.ok k) (Lc (transomref37_Line.ok k) (Lc (story_Change.ok k) (Lc (transomref37_Change.ok k) L0))))))
theorem ok (k : Nat) : CtOK prog 5 (ct (f k)) := fn_ok func5 rfl (by decide) (hE k) L0 (Lc ev L0)
end transomlaw37_StoryLines
end Go.Proofs.YtimadphjdkjgaaaGreatDoor.Aev
