/- By a program of this session (AEV): functions of the program as plain functions, and that the machine does what they say. -/
import Derived.Test.YtaehpfmnejeddaaGreatDoorTys
import Derived.Test.YtaehpfmnejeddaaGreatDoorProg
import Derived.Laws.Externs
import Derived.Lib.Bytealg
import Derived.Test.YtaehpfmnejeddaaGreatDoorF10
namespace Go.Proofs.YtaehpfmnejeddaaGreatDoor.Aev
set_option linter.unusedVariables false
set_option linter.unusedSimpArgs false
set_option maxRecDepth 100000
set_option maxHeartbeats 4000000
open Go Go.Proofs.Tryz
namespace transomref14_SameChange
def e (r : Bool) : Res := ⟨.v (.one (.d .bool r)), []⟩
abbrev G : Type := D_api_Change → D_api_Change → Option Bool
def ct (g : G) : Ct := mkCt 0 [] [⟨[.s T_api_Change, .s T_api_Change], [], fun x y => g x.1.1 x.2.1.1⟩] e
section
variable {β : Type} (g46 : transomref01_Texts.G) (g47 : transomref09_SameCol.G) (g48 : transomref09_Same.G)
noncomputable abbrev env : FEnv := mkEnv prog f14 [(46, transomref01_Texts.ct g46), (47, transomref09_SameCol.ct g47), (48, transomref09_Same.ct g48)] 0 [] []
def c (a0 : D_api_Change) (a1 : D_api_Change) (ret : Bool → Option β) : Option β := (bif (a0.1 == a1.1) then (bif ((ByteArray.toList a0.2.1) == (ByteArray.toList a1.2.1)) then (bif ((ByteArray.toList a0.2.2.1) == (ByteArray.toList a1.2.2.1)) then (bif ((ByteArray.toList a0.2.2.2.1) == (ByteArray.toList a1.2.2.2.1)) then (bif ((ByteArray.toList a0.2.2.2.2.1) == (ByteArray.toList a1.2.2.2.2.1)) then (bif ((ByteArray.toList a0.2.2.2.2.2.1) == (ByteArray.toList a1.2.2.2.2.2.1)) then (bif (a0.2.2.2.2.2.2.1 == a1.2.2.2.2.2.2.1) then ((g46 a0.2.2.2.2.2.2.2.1 a1.2.2.2.2.2.2.2.1).bind fun r0 => (bif r0 then ((g47 a0.2.2.2.2.2.2.2.2.1.1 a0.2.2.2.2.2.2.2.2.1.2.1 a0.2.2.2.2.2.2.2.2.1.2.2.1 a0.2.2.2.2.2.2.2.2.1.2.2.2.1.1 a0.2.2.2.2.2.2.2.2.1.2.2.2.1.2.1 a0.2.2.2.2.2.2.2.2.1.2.2.2.1.2.2.1 a0.2.2.2.2.2.2.2.2.1.2.2.2.1.2.2.2.1 a1.2.2.2.2.2.2.2.2.1.1 a1.2.2.2.2.2.2.2.2.1.2.1 a1.2.2.2.2.2.2.2.2.1.2.2.1 a1.2.2.2.2.2.2.2.2.1.2.2.2.1.1 a1.2.2.2.2.2.2.2.2.1.2.2.2.1.2.1 a1.2.2.2.2.2.2.2.2.1.2.2.2.1.2.2.1 a1.2.2.2.2.2.2.2.2.1.2.2.2.1.2.2.2.1).bind fun r1 => (bif r1 then ((g48 a0.2.2.2.2.2.2.2.2.2.1.1 a0.2.2.2.2.2.2.2.2.2.1.2.1 a0.2.2.2.2.2.2.2.2.2.1.2.2.1 a1.2.2.2.2.2.2.2.2.2.1.1 a1.2.2.2.2.2.2.2.2.2.1.2.1 a1.2.2.2.2.2.2.2.2.2.1.2.2.1).bind fun r2 => (ret (r2))) else (ret (false)))) else (ret (false)))) else (ret (false))) else (ret (false))) else (ret (false))) else (ret (false))) else (ret (false))) else (ret (false))) else (ret (false)))
variable {g46} {g47} {g48}
theorem ev : EvA (env g46 g47 g48) [] [0, 1] e ⟨[.s T_api_Change, .s T_api_Change], [], fun x y => c g46 g47 g48 x.1.1 x.2.1.1 some⟩ := fun x y => Eq.trans (b := c g46 g47 g48 x.1.1 x.2.1.1 fun r => some (e r)) (by kernel_rfl) (by simp only [c, bif_bind, sum_bind, oa, os, on, ofs])
end
def f (k : Nat) (a0 : D_api_Change) (a1 : D_api_Change) : Option Bool := c (transomref01_Texts.f k) (transomref09_SameCol.f k) (transomref09_Same.f k) a0 a1 some
noncomputable abbrev E (k : Nat) : FEnv := env (transomref01_Texts.f k) (transomref09_SameCol.f k) (transomref09_Same.f k) 
theorem hE (k : Nat) : EnvOK (E k).toEnv := ctsOK (L.cons (transomref01_Texts.ok k) (L.cons (transomref09_SameCol.ok k) (L.cons (transomref09_Same.ok k) L.nil)))
theorem ok (k : Nat) : CtOK prog 14 (ct (f k)) := fn_ok func14 rfl (by decide) (hE k) L.nil (L.cons ev L.nil)
end transomref14_SameChange
end Go.Proofs.YtaehpfmnejeddaaGreatDoor.Aev
