/- By a program of this session (AEV): functions of the program as plain functions, and that the machine does what they say. -/
import Derived.Test.YtaehpfmnejeddaaGreatDoorTys
import Derived.Test.YtaehpfmnejeddaaGreatDoorProg
import Derived.Laws.Externs
import Derived.Lib.Bytealg
import Derived.Test.YtaehpfmnejeddaaGreatDoorF5
import Derived.Test.YtaehpfmnejeddaaGreatDoorF6
import Derived.Test.YtaehpfmnejeddaaGreatDoorF13
namespace Go.Proofs.YtaehpfmnejeddaaGreatDoor.Aev
set_option linter.unusedVariables false
set_option linter.unusedSimpArgs false
set_option maxRecDepth 100000
set_option maxHeartbeats 4000000
open Go Go.Proofs.Tryz
namespace transomlaw14_OpsPuts
def e (r : Bool) : Res := ⟨.v (.one (.d .bool r)), []⟩
abbrev G : Type := D_api_Op → Option Bool
def ct (g : G) : Ct := mkCt 0 [] [⟨[.s T_api_Op], [], fun x y => g x.1.1⟩] e
section
variable {β : Type} (g9 : transomlaw14_awake.G) (g15 : transomlaw13_FewOp.G) (g16 : ops_Put.G) (g17 : transomref14_Put.G)
noncomputable abbrev env : FEnv := mkEnv prog f4 [(9, transomlaw14_awake.ct g9), (15, transomlaw13_FewOp.ct g15), (16, ops_Put.ct g16), (17, transomref14_Put.ct g17)] 0 [] []
def c (a0 : D_api_Op) (ret : Bool → Option β) : Option β := ((g15 a0).bind fun r0 => (bif (r0 == (0 : Int)) then (g9.bind fun r1 => (ret (r1))) else ((g16 a0).bind fun r2 => ((g17 a0).bind fun r3 => (bif ((ByteArray.toList r2.1) == (ByteArray.toList r3.1)) then (bif (r2.2 == r3.2) then (g9.bind fun r4 => (ret (r4))) else (ret (false))) else (ret (false)))))))
variable {g9} {g15} {g16} {g17}
theorem ev : EvA (env g9 g15 g16 g17) [] [0] e ⟨[.s T_api_Op], [], fun x y => c g9 g15 g16 g17 x.1.1 some⟩ := fun x y => Eq.trans (b := c g9 g15 g16 g17 x.1.1 fun r => some (e r)) (by kernel_rfl) (by simp only [c, bif_bind, sum_bind, oa, os, on, ofs])
end
def f (k : Nat) (a0 : D_api_Op) : Option Bool := c (transomlaw14_awake.f k) (transomlaw13_FewOp.f k) (ops_Put.f k) (transomref14_Put.f k) a0 some
noncomputable abbrev E (k : Nat) : FEnv := env (transomlaw14_awake.f k) (transomlaw13_FewOp.f k) (ops_Put.f k) (transomref14_Put.f k) 
theorem hE (k : Nat) : EnvOK (E k).toEnv := ctsOK (L.cons (transomlaw14_awake.ok k) (L.cons (transomlaw13_FewOp.ok k) (L.cons (ops_Put.ok k) (L.cons (transomref14_Put.ok k) L.nil))))
theorem ok (k : Nat) : CtOK prog 4 (ct (f k)) := fn_ok func4 rfl (by decide) (hE k) L.nil (L.cons ev L.nil)
end transomlaw14_OpsPuts
end Go.Proofs.YtaehpfmnejeddaaGreatDoor.Aev
