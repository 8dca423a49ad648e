/- By a program of this session (AEV): functions of the program as plain functions, and that the machine does what they say. -/
import Derived.Test.YtaehpfmnejeddaaGreatDoorTys
import Derived.Test.YtaehpfmnejeddaaGreatDoorProg
import Derived.Laws.Externs
import Derived.Lib.Bytealg
import Derived.Test.YtaehpfmnejeddaaGreatDoorF15
namespace Go.Proofs.YtaehpfmnejeddaaGreatDoor.Aev
set_option linter.unusedVariables false
set_option linter.unusedSimpArgs false
set_option maxRecDepth 100000
set_option maxHeartbeats 4000000
open Go Go.Proofs.Tryz
namespace transomref06_All
def e (r : Bool) : Res := ⟨.v (.one (.d .bool r)), []⟩
abbrev G : Type := (List (List D_api_Value)) → (List (List D_api_Value)) → Option Bool
def ct (g : G) : Ct := mkCt 0 [] [⟨[.d (.sl (.sl T_api_Value)), .d (.sl (.sl T_api_Value))], [], fun x y => g x.1 x.2.1⟩] e
abbrev S0 : Type := (List (List D_api_Value)) → (List (List D_api_Value)) → Int → Option Bool
def sg0 (s : S0) : Seg := mkSg [4, 1, 0, 1, 1] [] [0, 1, 5] [⟨[.d (.sl (.sl T_api_Value)), .d (.sl (.sl T_api_Value)), .d (.int .i64)], [], fun x y => s x.1 x.2.1 x.2.2.1⟩] e
section
variable {β : Type} (g57 : transomref06_Same.G) (s0 : S0)
noncomputable abbrev env : FEnv := mkEnv prog f24 [(57, transomref06_Same.ct g57)] 0 [] [sg0 s0]
def c (a0 : List (List D_api_Value)) (a1 : List (List D_api_Value)) (ret : Bool → Option β) : Option β := (bif (((List.length a0) : Int) != ((List.length a1) : Int)) then (ret (false)) else ((s0 a0 a1 (0 : Int)).bind ret))
def s0c (x0 : List (List D_api_Value)) (x1 : List (List D_api_Value)) (x2 : Int) (ret : Bool → Option β) : Option β := (bif (decide (x2 < ((List.length x0) : Int))) then (bif ((decide ((0 : Int) ≤ x2)) && (decide (x2 < ((List.length x0) : Int)))) then (bif ((decide ((0 : Int) ≤ x2)) && (decide (x2 < ((List.length x1) : Int)))) then ((g57 (elem (Ty.sl T_api_Value) x0 x2) (elem (Ty.sl T_api_Value) x1 x2)).bind fun r0 => (bif (!r0) then (ret (false)) else ((s0 x0 x1 (IntKind.wrap IntKind.i64 (x2 + (1 : Int)))).bind ret))) else none) else none) else (ret (true)))
variable {g57} {s0}
theorem ev : EvA (env g57 s0) [] [0, 1] e ⟨[.d (.sl (.sl T_api_Value)), .d (.sl (.sl T_api_Value))], [], fun x y => c s0 x.1 x.2.1 some⟩ := fun x y => Eq.trans (b := c s0 x.1 x.2.1 fun r => some (e r)) (by kernel_rfl) (by simp only [c, bif_bind, sum_bind, oa, os, on, ofs])
theorem s0_ev : EvA (env g57 s0) [4, 1, 0, 1, 1] [0, 1, 5] e ⟨[.d (.sl (.sl T_api_Value)), .d (.sl (.sl T_api_Value)), .d (.int .i64)], [], fun x y => s0c g57 s0 x.1 x.2.1 x.2.2.1 some⟩ := fun x y => Eq.trans (b := s0c g57 s0 x.1 x.2.1 x.2.2.1 fun r => some (e r)) (by kernel_rfl) (by simp only [s0c, bif_bind, sum_bind, oa, os, on, ofs])
end
def s0 : Nat → (List (List D_api_Value)) → (List (List D_api_Value)) → Int → Option Bool
  | 0, _, _, _ => none
  | k + 1, x0, x1, x2 => s0c (transomref06_Same.f k) (s0 k) x0 x1 x2 some
def f (k : Nat) (a0 : List (List D_api_Value)) (a1 : List (List D_api_Value)) : Option Bool := c (s0 k) a0 a1 some
noncomputable abbrev E (k : Nat) : FEnv := env (transomref06_Same.f k) (s0 k)
theorem hE (k : Nat) : EnvOK (E k).toEnv := ctsOK (L.cons (transomref06_Same.ok k) L.nil)
theorem segs_ok : ∀ k, ∀ s ∈ [sg0 (s0 k)], SegB prog f24 0 s
  | 0 => (L.cons (sg_none (L.cons (fun _ _ => rfl) L.nil)) L.nil)
  | k + 1 => (L.cons (sg_ok (hE k) (segs_ok k) (L.cons s0_ev L.nil)) L.nil)
theorem ok (k : Nat) : CtOK prog 24 (ct (f k)) := fn_ok func24 rfl (by decide) (hE k) (segs_ok k) (L.cons ev L.nil)
end transomref06_All
namespace transomref13_Replies
def e (r : Bool) : Res := ⟨.v (.one (.d .bool r)), []⟩
abbrev G : Type := Int → (List (List D_api_Value)) → Int → (List (List D_api_Value)) → Option Bool
def ct (g : G) : Ct := mkCt 0 [] [⟨[.s T_api_Reply, .s T_api_Reply], [], fun x y => g x.1.1.1 x.1.1.2.1 x.2.1.1.1 x.2.1.1.2.1⟩] e
section
variable {β : Type} (g24 : transomref06_All.G)
noncomputable abbrev env : FEnv := mkEnv prog f23 [(24, transomref06_All.ct g24)] 0 [] []
def c (a0 : Int) (a1 : List (List D_api_Value)) (a2 : Int) (a3 : List (List D_api_Value)) (ret : Bool → Option β) : Option β := (bif (a0 == a2) then ((g24 a1 a3).bind fun r0 => (ret (r0))) else (ret (false)))
variable {g24}
theorem ev : EvA (env g24) [] [0, 1] e ⟨[.s T_api_Reply, .s T_api_Reply], [], fun x y => c g24 x.1.1.1 x.1.1.2.1 x.2.1.1.1 x.2.1.1.2.1 some⟩ := fun x y => Eq.trans (b := c g24 x.1.1.1 x.1.1.2.1 x.2.1.1.1 x.2.1.1.2.1 fun r => some (e r)) (by kernel_rfl) (by simp only [c, bif_bind, sum_bind, oa, os, on, ofs])
end
def f (k : Nat) (a0 : Int) (a1 : List (List D_api_Value)) (a2 : Int) (a3 : List (List D_api_Value)) : Option Bool := c (transomref06_All.f k) a0 a1 a2 a3 some
noncomputable abbrev E (k : Nat) : FEnv := env (transomref06_All.f k) 
theorem hE (k : Nat) : EnvOK (E k).toEnv := ctsOK (L.cons (transomref06_All.ok k) L.nil)
theorem ok (k : Nat) : CtOK prog 23 (ct (f k)) := fn_ok func23 rfl (by decide) (hE k) L.nil (L.cons ev L.nil)
end transomref13_Replies
end Go.Proofs.YtaehpfmnejeddaaGreatDoor.Aev
