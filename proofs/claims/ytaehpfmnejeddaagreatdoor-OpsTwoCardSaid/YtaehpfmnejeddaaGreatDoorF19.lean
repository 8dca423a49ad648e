/- By a program of this session (AEV): functions of the program as plain functions, and that the machine does what they say. -/
import Derived.Test.YtaehpfmnejeddaaGreatDoorTys
import Derived.Test.YtaehpfmnejeddaaGreatDoorProg
import Derived.Laws.Externs
import Derived.Lib.Bytealg
import Derived.Test.YtaehpfmnejeddaaGreatDoorF6
import Derived.Test.YtaehpfmnejeddaaGreatDoorF13
import Derived.Test.YtaehpfmnejeddaaGreatDoorF15
import Derived.Test.YtaehpfmnejeddaaGreatDoorF18
namespace Go.Proofs.YtaehpfmnejeddaaGreatDoor.Aev
set_option linter.unusedVariables false
set_option linter.unusedSimpArgs false
set_option maxRecDepth 100000
set_option maxHeartbeats 4000000
open Go Go.Proofs.Tryz
namespace transomlaw14_OpsTwo
def e (r : Bool) : Res := ⟨.v (.one (.d .bool r)), []⟩
abbrev G : Type := D_api_Op → D_api_Op → Int → (List (List D_api_Value)) → Int → (List (List D_api_Value)) → Option Bool
def ct (g : G) : Ct := mkCt 0 [] [⟨[.s T_api_Op, .s T_api_Op, .v (.agg [.g T_api_Reply, .g T_api_Reply])], [], fun x y => g x.1.1 x.2.1.1 x.2.2.1.1.1 x.2.2.1.1.2.1 x.2.2.1.2.1.1 x.2.2.1.2.1.2.1⟩] e
abbrev S0 : Type := Bool → D_api_Op → D_api_Op → Int → (List (List D_api_Value)) → Int → (List (List D_api_Value)) → Option Bool
abbrev S1 : Type := D_api_Op → D_api_Op → Int → (List (List D_api_Value)) → Int → (List (List D_api_Value)) → Option Bool
def sg0 (s : S0) : Seg := mkSg [1, 0, 1] [] [3, 4, 5, 28] [⟨[.k (.ptr 0 0), .k (.ptr 1 0), .k (.ptr 2 0), .d .bool], [.box [.g T_api_Op], .box [.g T_api_Op], .box [.g T_api_Reply, .g T_api_Reply]], fun x y => s x.2.2.2.1 y.1.1 y.2.1.1 y.2.2.1.1.1 y.2.2.1.1.2.1 y.2.2.1.2.1.1 y.2.2.1.2.1.2.1⟩] e
def sg1 (s : S1) : Seg := mkSg [1, 1] [] [3, 4, 5] [⟨[.k (.ptr 0 0), .k (.ptr 1 0), .k (.ptr 2 0)], [.box [.g T_api_Op], .box [.g T_api_Op], .box [.g T_api_Reply, .g T_api_Reply]], fun x y => s y.1.1 y.2.1.1 y.2.2.1.1.1 y.2.2.1.1.2.1 y.2.2.1.2.1.1 y.2.2.1.2.1.2.1⟩] e
section
variable {β : Type} (g9 : transomlaw14_awake.G) (g15 : transomlaw13_FewOp.G) (g20 : transomref14_Same.G) (g21 : ops_Same.G) (g22 : ops_Replies.G) (g23 : transomref13_Replies.G) (g24 : transomref06_All.G) (s0 : S0) (s1 : S1)
noncomputable abbrev env : FEnv := mkEnv prog f7 [(9, transomlaw14_awake.ct g9), (15, transomlaw13_FewOp.ct g15), (20, transomref14_Same.ct g20), (21, ops_Same.ct g21), (22, ops_Replies.ct g22), (23, transomref13_Replies.ct g23), (24, transomref06_All.ct g24)] 0 [] [sg0 s0, sg1 s1]
def c (a0 : D_api_Op) (a1 : D_api_Op) (a2 : Int) (a3 : List (List D_api_Value)) (a4 : Int) (a5 : List (List D_api_Value)) (ret : Bool → Option β) : Option β := ((g15 a0).bind fun r0 => (bif (r0 == (0 : Int)) then ((s0 true a0 a1 a2 a3 a4 a5).bind ret) else ((g15 a1).bind fun r1 => (bif (r1 == (0 : Int)) then ((s0 true a0 a1 a2 a3 a4 a5).bind ret) else (bif (decide (((List.length a3) : Int) > (10 : Int))) then ((s0 true a0 a1 a2 a3 a4 a5).bind ret) else ((s0 (decide (((List.length a5) : Int) > (10 : Int))) a0 a1 a2 a3 a4 a5).bind ret))))))
def s0c (x0 : Bool) (x1 : D_api_Op) (x2 : D_api_Op) (x3 : Int) (x4 : List (List D_api_Value)) (x5 : Int) (x6 : List (List D_api_Value)) (ret : Bool → Option β) : Option β := (bif x0 then (g9.bind fun r0 => (ret (r0))) else ((s1 x1 x2 x3 x4 x5 x6).bind ret))
def s1c (x0 : D_api_Op) (x1 : D_api_Op) (x2 : Int) (x3 : List (List D_api_Value)) (x4 : Int) (x5 : List (List D_api_Value)) (ret : Bool → Option β) : Option β := ((g21 x0 x1).bind fun r0 => ((g20 x0 x1).bind fun r1 => (bif (r0 == r1) then ((g22 x2 x3 x4 x5).bind fun r2 => ((g23 x2 x3 x4 x5).bind fun r3 => (bif (r2 == r3) then (bif (x2 != x4) then (g9.bind fun r4 => (ret (r4))) else ((g22 x2 x3 x4 x5).bind fun r5 => ((g24 x3 x5).bind fun r6 => (bif (r5 == r6) then (g9.bind fun r7 => (ret (r7))) else (ret (false)))))) else (ret (false))))) else (ret (false)))))
variable {g9} {g15} {g20} {g21} {g22} {g23} {g24} {s0} {s1}
theorem ev : EvA (env g9 g15 g20 g21 g22 g23 g24 s0 s1) [] [0, 1, 2] e ⟨[.s T_api_Op, .s T_api_Op, .v (.agg [.g T_api_Reply, .g T_api_Reply])], [], fun x y => c g15 s0 x.1.1 x.2.1.1 x.2.2.1.1.1 x.2.2.1.1.2.1 x.2.2.1.2.1.1 x.2.2.1.2.1.2.1 some⟩ := fun x y => Eq.trans (b := c g15 s0 x.1.1 x.2.1.1 x.2.2.1.1.1 x.2.2.1.1.2.1 x.2.2.1.2.1.1 x.2.2.1.2.1.2.1 fun r => some (e r)) (by kernel_rfl) (by simp only [c, bif_bind, sum_bind, oa, os, on, ofs])
theorem s0_ev : EvA (env g9 g15 g20 g21 g22 g23 g24 s0 s1) [1, 0, 1] [3, 4, 5, 28] e ⟨[.k (.ptr 0 0), .k (.ptr 1 0), .k (.ptr 2 0), .d .bool], [.box [.g T_api_Op], .box [.g T_api_Op], .box [.g T_api_Reply, .g T_api_Reply]], fun x y => s0c g9 s1 x.2.2.2.1 y.1.1 y.2.1.1 y.2.2.1.1.1 y.2.2.1.1.2.1 y.2.2.1.2.1.1 y.2.2.1.2.1.2.1 some⟩ := fun x y => Eq.trans (b := s0c g9 s1 x.2.2.2.1 y.1.1 y.2.1.1 y.2.2.1.1.1 y.2.2.1.1.2.1 y.2.2.1.2.1.1 y.2.2.1.2.1.2.1 fun r => some (e r)) (by kernel_rfl) (by simp only [s0c, bif_bind, sum_bind, oa, os, on, ofs])
theorem s1_ev : EvA (env g9 g15 g20 g21 g22 g23 g24 s0 s1) [1, 1] [3, 4, 5] e ⟨[.k (.ptr 0 0), .k (.ptr 1 0), .k (.ptr 2 0)], [.box [.g T_api_Op], .box [.g T_api_Op], .box [.g T_api_Reply, .g T_api_Reply]], fun x y => s1c g9 g20 g21 g22 g23 g24 y.1.1 y.2.1.1 y.2.2.1.1.1 y.2.2.1.1.2.1 y.2.2.1.2.1.1 y.2.2.1.2.1.2.1 some⟩ := fun x y => Eq.trans (b := s1c g9 g20 g21 g22 g23 g24 y.1.1 y.2.1.1 y.2.2.1.1.1 y.2.2.1.1.2.1 y.2.2.1.2.1.1 y.2.2.1.2.1.2.1 fun r => some (e r)) (by kernel_rfl) (by simp only [s1c, bif_bind, sum_bind, oa, os, on, ofs])
end
mutual
def s0 : Nat → Bool → D_api_Op → D_api_Op → Int → (List (List D_api_Value)) → Int → (List (List D_api_Value)) → Option Bool
  | 0, _, _, _, _, _, _, _ => none
  | k + 1, x0, x1, x2, x3, x4, x5, x6 => s0c (transomlaw14_awake.f k) (s1 k) x0 x1 x2 x3 x4 x5 x6 some
def s1 : Nat → D_api_Op → D_api_Op → Int → (List (List D_api_Value)) → Int → (List (List D_api_Value)) → Option Bool
  | 0, _, _, _, _, _, _ => none
  | k + 1, x0, x1, x2, x3, x4, x5 => s1c (transomlaw14_awake.f k) (transomref14_Same.f k) (ops_Same.f k) (ops_Replies.f k) (transomref13_Replies.f k) (transomref06_All.f k) x0 x1 x2 x3 x4 x5 some
end
def f (k : Nat) (a0 : D_api_Op) (a1 : D_api_Op) (a2 : Int) (a3 : List (List D_api_Value)) (a4 : Int) (a5 : List (List D_api_Value)) : Option Bool := c (transomlaw13_FewOp.f k) (s0 k) a0 a1 a2 a3 a4 a5 some
noncomputable abbrev E (k : Nat) : FEnv := env (transomlaw14_awake.f k) (transomlaw13_FewOp.f k) (transomref14_Same.f k) (ops_Same.f k) (ops_Replies.f k) (transomref13_Replies.f k) (transomref06_All.f k) (s0 k) (s1 k)
theorem hE (k : Nat) : EnvOK (E k).toEnv := ctsOK (L.cons (transomlaw14_awake.ok k) (L.cons (transomlaw13_FewOp.ok k) (L.cons (transomref14_Same.ok k) (L.cons (ops_Same.ok k) (L.cons (ops_Replies.ok k) (L.cons (transomref13_Replies.ok k) (L.cons (transomref06_All.ok k) L.nil)))))))
theorem segs_ok : ∀ k, ∀ s ∈ [sg0 (s0 k), sg1 (s1 k)], SegB prog f7 0 s
  | 0 => (L.cons (sg_none (L.cons (fun _ _ => rfl) L.nil)) (L.cons (sg_none (L.cons (fun _ _ => rfl) L.nil)) L.nil))
  | k + 1 => (L.cons (sg_ok (hE k) (segs_ok k) (L.cons s0_ev L.nil)) (L.cons (sg_ok (hE k) (segs_ok k) (L.cons s1_ev L.nil)) L.nil))
theorem ok (k : Nat) : CtOK prog 7 (ct (f k)) := fn_ok func7 rfl (by decide) (hE k) (segs_ok k) (L.cons ev L.nil)
end transomlaw14_OpsTwo
end Go.Proofs.YtaehpfmnejeddaaGreatDoor.Aev
