/- By a program of this session (AEV): functions of the program as plain functions, and that the machine does what they say. -/
import Derived.Test.YtaehpfmnejeddaaGreatDoorTys
import Derived.Test.YtaehpfmnejeddaaGreatDoorProg
import Derived.Laws.Externs
import Derived.Lib.Bytealg
import Derived.Test.YtaehpfmnejeddaaGreatDoorF0
import Derived.Test.YtaehpfmnejeddaaGreatDoorF6
import Derived.Test.YtaehpfmnejeddaaGreatDoorF7
import Derived.Test.YtaehpfmnejeddaaGreatDoorF8
import Derived.Test.YtaehpfmnejeddaaGreatDoorF9
namespace Go.Proofs.YtaehpfmnejeddaaGreatDoor.Aev
set_option linter.unusedVariables false
set_option linter.unusedSimpArgs false
set_option maxRecDepth 100000
set_option maxHeartbeats 4000000
open Go Go.Proofs.Tryz
namespace transomlaw05_Few
def e (r : Int) : Res := ⟨.v (.one (.d (.int .i64) r)), []⟩
abbrev G : Type := (List D_api_Value) → Option Int
def ct (g : G) : Ct := mkCt 0 [] [⟨[.d (.sl T_api_Value)], [], fun x y => g x.1⟩] e
abbrev S0 : Type := (List D_api_Value) → Int → Option Int
def sg0 (s : S0) : Seg := mkSg [4, 1, 0, 1, 1] [] [0, 3] [⟨[.d (.sl T_api_Value), .d (.int .i64)], [], fun x y => s x.1 x.2.1⟩] e
section
variable {β : Type} (g27 : transomlaw04_Few.G) (s0 : S0)
noncomputable abbrev env : FEnv := mkEnv prog f49 [(27, transomlaw04_Few.ct g27)] 0 [] [sg0 s0]
def c (a0 : List D_api_Value) (ret : Int → Option β) : Option β := (bif (decide (((List.length a0) : Int) > (30 : Int))) then (ret ((0 : Int))) else ((s0 a0 (0 : Int)).bind ret))
def s0c (x0 : List D_api_Value) (x1 : Int) (ret : Int → Option β) : Option β := (bif (decide (x1 < ((List.length x0) : Int))) then (bif ((decide ((0 : Int) ≤ x1)) && (decide (x1 < ((List.length x0) : Int)))) then ((g27 (elem T_api_Value x0 x1).1 (elem T_api_Value x0 x1).2.1 (elem T_api_Value x0 x1).2.2.1 (elem T_api_Value x0 x1).2.2.2.1).bind fun r0 => (bif (r0 == (0 : Int)) then (ret ((0 : Int))) else ((s0 x0 (IntKind.wrap IntKind.i64 (x1 + (1 : Int)))).bind ret))) else none) else (ret ((1 : Int))))
variable {g27} {s0}
theorem ev : EvA (env g27 s0) [] [0] e ⟨[.d (.sl T_api_Value)], [], fun x y => c s0 x.1 some⟩ := fun x y => Eq.trans (b := c s0 x.1 fun r => some (e r)) (by kernel_rfl) (by simp only [c, bif_bind, sum_bind, oa, os, on, ofs])
theorem s0_ev : EvA (env g27 s0) [4, 1, 0, 1, 1] [0, 3] e ⟨[.d (.sl T_api_Value), .d (.int .i64)], [], fun x y => s0c g27 s0 x.1 x.2.1 some⟩ := fun x y => Eq.trans (b := s0c g27 s0 x.1 x.2.1 fun r => some (e r)) (by kernel_rfl) (by simp only [s0c, bif_bind, sum_bind, oa, os, on, ofs])
end
def s0 : Nat → (List D_api_Value) → Int → Option Int
  | 0, _, _ => none
  | k + 1, x0, x1 => s0c (transomlaw04_Few.f k) (s0 k) x0 x1 some
def f (k : Nat) (a0 : List D_api_Value) : Option Int := c (s0 k) a0 some
noncomputable abbrev E (k : Nat) : FEnv := env (transomlaw04_Few.f k) (s0 k)
theorem hE (k : Nat) : EnvOK (E k).toEnv := ctsOK (L.cons (transomlaw04_Few.ok k) L.nil)
theorem segs_ok : ∀ k, ∀ s ∈ [sg0 (s0 k)], SegB prog f49 0 s
  | 0 => (L.cons (sg_none (L.cons (fun _ _ => rfl) L.nil)) L.nil)
  | k + 1 => (L.cons (sg_ok (hE k) (segs_ok k) (L.cons s0_ev L.nil)) L.nil)
theorem ok (k : Nat) : CtOK prog 49 (ct (f k)) := fn_ok func49 rfl (by decide) (hE k) (segs_ok k) (L.cons ev L.nil)
end transomlaw05_Few
namespace transomlaw13_FewOp
def e (r : Int) : Res := ⟨.v (.one (.d (.int .i64) r)), []⟩
abbrev G : Type := D_api_Op → Option Int
def ct (g : G) : Ct := mkCt 0 [] [⟨[.s T_api_Op], [], fun x y => g x.1.1⟩] e
section
variable {β : Type} (g8 : transomlaw10_Few.G) (g49 : transomlaw05_Few.G)
noncomputable abbrev env : FEnv := mkEnv prog f15 [(8, transomlaw10_Few.ct g8), (49, transomlaw05_Few.ct g49)] 0 [] []
def c (a0 : D_api_Op) (ret : Int → Option β) : Option β := (bif (decide (((ByteArray.size a0.2.1) : Int) > (500 : Int))) then (ret ((0 : Int))) else ((g49 a0.2.2.1).bind fun r0 => (bif (r0 == (0 : Int)) then (ret ((0 : Int))) else ((g49 a0.2.2.2.1).bind fun r1 => (bif (r1 == (0 : Int)) then (ret ((0 : Int))) else ((g49 a0.2.2.2.2.1).bind fun r2 => (bif (r2 == (0 : Int)) then (ret ((0 : Int))) else ((g8 a0.2.2.2.2.2.2.1).bind fun r3 => (bif (r3 == (0 : Int)) then (ret ((0 : Int))) else (ret ((1 : Int))))))))))))
variable {g8} {g49}
theorem ev : EvA (env g8 g49) [] [0] e ⟨[.s T_api_Op], [], fun x y => c g8 g49 x.1.1 some⟩ := fun x y => Eq.trans (b := c g8 g49 x.1.1 fun r => some (e r)) (by kernel_rfl) (by simp only [c, bif_bind, sum_bind, oa, os, on, ofs])
end
def f (k : Nat) (a0 : D_api_Op) : Option Int := c (transomlaw10_Few.f k) (transomlaw05_Few.f k) a0 some
noncomputable abbrev E (k : Nat) : FEnv := env (transomlaw10_Few.f k) (transomlaw05_Few.f k) 
theorem hE (k : Nat) : EnvOK (E k).toEnv := ctsOK (L.cons (transomlaw10_Few.ok k) (L.cons (transomlaw05_Few.ok k) L.nil))
theorem ok (k : Nat) : CtOK prog 15 (ct (f k)) := fn_ok func15 rfl (by decide) (hE k) L.nil (L.cons ev L.nil)
end transomlaw13_FewOp
end Go.Proofs.YtaehpfmnejeddaaGreatDoor.Aev
