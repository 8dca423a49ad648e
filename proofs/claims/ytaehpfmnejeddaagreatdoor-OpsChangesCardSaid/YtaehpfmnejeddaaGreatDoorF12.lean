/- By a program of this session (AEV): functions of the program as plain functions, and that the machine does what they say. -/
import Derived.Test.YtaehpfmnejeddaaGreatDoorTys
import Derived.Test.YtaehpfmnejeddaaGreatDoorProg
import Derived.Laws.Externs
import Derived.Lib.Bytealg
import Derived.Test.YtaehpfmnejeddaaGreatDoorF0
import Derived.Test.YtaehpfmnejeddaaGreatDoorF3
import Derived.Test.YtaehpfmnejeddaaGreatDoorF4
import Derived.Test.YtaehpfmnejeddaaGreatDoorF6
import Derived.Test.YtaehpfmnejeddaaGreatDoorF9
import Derived.Test.YtaehpfmnejeddaaGreatDoorF10
import Derived.Test.YtaehpfmnejeddaaGreatDoorF11
namespace Go.Proofs.YtaehpfmnejeddaaGreatDoor.Aev
set_option linter.unusedVariables false
set_option linter.unusedSimpArgs false
set_option maxRecDepth 100000
set_option maxHeartbeats 4000000
open Go Go.Proofs.Tryz
namespace transomlaw14_OpsChanges
def e (r : Bool) : Res := ⟨.v (.one (.d .bool r)), []⟩
abbrev G : Type := D_api_Change → ByteArray → Option Bool
def ct (g : G) : Ct := mkCt 0 [] [⟨[.s T_api_Change, .d .str], [], fun x y => g x.1.1 x.2.1⟩] e
abbrev S0 : Type := ByteArray → Bool → D_api_Change → Option Bool
abbrev S1 : Type := ByteArray → D_api_Change → Option Bool
def sg0 (s : S0) : Seg := mkSg [1, 0, 1] [] [1, 2, 22] [⟨[.d .str, .k (.ptr 0 0), .d .bool], [.box [.g T_api_Change]], fun x y => s x.1 x.2.2.1 y.1.1⟩] e
def sg1 (s : S1) : Seg := mkSg [1, 1] [] [1, 2] [⟨[.d .str, .k (.ptr 0 0)], [.box [.g T_api_Change]], fun x y => s x.1 y.1.1⟩] e
section
variable {β : Type} (g8 : transomlaw10_Few.G) (g9 : transomlaw14_awake.G) (g10 : ops_PutChange.G) (g11 : transomref14_PutChange.G) (g12 : ops_ReadChange.G) (g13 : transomref14_ReadChange.G) (g14 : transomref14_SameChange.G) (s0 : S0) (s1 : S1)
noncomputable abbrev env : FEnv := mkEnv prog f3 [(8, transomlaw10_Few.ct g8), (9, transomlaw14_awake.ct g9), (10, ops_PutChange.ct g10), (11, transomref14_PutChange.ct g11), (12, ops_ReadChange.ct g12), (13, transomref14_ReadChange.ct g13), (14, transomref14_SameChange.ct g14)] 0 [] [sg0 s0, sg1 s1]
def c (a0 : D_api_Change) (a1 : ByteArray) (ret : Bool → Option β) : Option β := ((g8 a0).bind fun r0 => (bif (r0 == (0 : Int)) then ((s0 a1 true a0).bind ret) else ((s0 a1 (decide (((ByteArray.size a1) : Int) > (3000 : Int))) a0).bind ret)))
def s0c (x0 : ByteArray) (x1 : Bool) (x2 : D_api_Change) (ret : Bool → Option β) : Option β := (bif x1 then (g9.bind fun r0 => (ret (r0))) else ((s1 x0 x2).bind ret))
def s1c (x0 : ByteArray) (x1 : D_api_Change) (ret : Bool → Option β) : Option β := ((g10 x1).bind fun r0 => ((g11 x1).bind fun r1 => ((g12 x0).bind fun r2 => ((g13 x0).bind fun r3 => (bif ((ByteArray.toList r0.1) == (ByteArray.toList r1.1)) then (bif (r0.2 == r1.2) then ((g14 r2.1 r3.1).bind fun r4 => (bif r4 then (bif ((ByteArray.toList r2.2.1) == (ByteArray.toList r3.2.1)) then (bif (r2.2.2 == r3.2.2) then (g9.bind fun r5 => (ret (r5))) else (ret (false))) else (ret (false))) else (ret (false)))) else (ret (false))) else (ret (false)))))))
variable {g8} {g9} {g10} {g11} {g12} {g13} {g14} {s0} {s1}
theorem ev : EvA (env g8 g9 g10 g11 g12 g13 g14 s0 s1) [] [0, 1] e ⟨[.s T_api_Change, .d .str], [], fun x y => c g8 s0 x.1.1 x.2.1 some⟩ := fun x y => Eq.trans (b := c g8 s0 x.1.1 x.2.1 fun r => some (e r)) (by kernel_rfl) (by simp only [c, bif_bind, sum_bind, oa, os, on, ofs])
theorem s0_ev : EvA (env g8 g9 g10 g11 g12 g13 g14 s0 s1) [1, 0, 1] [1, 2, 22] e ⟨[.d .str, .k (.ptr 0 0), .d .bool], [.box [.g T_api_Change]], fun x y => s0c g9 s1 x.1 x.2.2.1 y.1.1 some⟩ := fun x y => Eq.trans (b := s0c g9 s1 x.1 x.2.2.1 y.1.1 fun r => some (e r)) (by kernel_rfl) (by simp only [s0c, bif_bind, sum_bind, oa, os, on, ofs])
theorem s1_ev : EvA (env g8 g9 g10 g11 g12 g13 g14 s0 s1) [1, 1] [1, 2] e ⟨[.d .str, .k (.ptr 0 0)], [.box [.g T_api_Change]], fun x y => s1c g9 g10 g11 g12 g13 g14 x.1 y.1.1 some⟩ := fun x y => Eq.trans (b := s1c g9 g10 g11 g12 g13 g14 x.1 y.1.1 fun r => some (e r)) (by kernel_rfl) (by simp only [s1c, bif_bind, sum_bind, oa, os, on, ofs])
end
mutual
def s0 : Nat → ByteArray → Bool → D_api_Change → Option Bool
  | 0, _, _, _ => none
  | k + 1, x0, x1, x2 => s0c (transomlaw14_awake.f k) (s1 k) x0 x1 x2 some
def s1 : Nat → ByteArray → D_api_Change → Option Bool
  | 0, _, _ => none
  | k + 1, x0, x1 => s1c (transomlaw14_awake.f k) (ops_PutChange.f k) (transomref14_PutChange.f k) (ops_ReadChange.f k) (transomref14_ReadChange.f k) (transomref14_SameChange.f k) x0 x1 some
end
def f (k : Nat) (a0 : D_api_Change) (a1 : ByteArray) : Option Bool := c (transomlaw10_Few.f k) (s0 k) a0 a1 some
noncomputable abbrev E (k : Nat) : FEnv := env (transomlaw10_Few.f k) (transomlaw14_awake.f k) (ops_PutChange.f k) (transomref14_PutChange.f k) (ops_ReadChange.f k) (transomref14_ReadChange.f k) (transomref14_SameChange.f k) (s0 k) (s1 k)
theorem hE (k : Nat) : EnvOK (E k).toEnv := ctsOK (L.cons (transomlaw10_Few.ok k) (L.cons (transomlaw14_awake.ok k) (L.cons (ops_PutChange.ok k) (L.cons (transomref14_PutChange.ok k) (L.cons (ops_ReadChange.ok k) (L.cons (transomref14_ReadChange.ok k) (L.cons (transomref14_SameChange.ok k) L.nil)))))))
theorem segs_ok : ∀ k, ∀ s ∈ [sg0 (s0 k), sg1 (s1 k)], SegB prog f3 0 s
  | 0 => (L.cons (sg_none (L.cons (fun _ _ => rfl) L.nil)) (L.cons (sg_none (L.cons (fun _ _ => rfl) L.nil)) L.nil))
  | k + 1 => (L.cons (sg_ok (hE k) (segs_ok k) (L.cons s0_ev L.nil)) (L.cons (sg_ok (hE k) (segs_ok k) (L.cons s1_ev L.nil)) L.nil))
theorem ok (k : Nat) : CtOK prog 3 (ct (f k)) := fn_ok func3 rfl (by decide) (hE k) (segs_ok k) (L.cons ev L.nil)
end transomlaw14_OpsChanges
end Go.Proofs.YtaehpfmnejeddaaGreatDoor.Aev
