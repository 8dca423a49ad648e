/- By a program of this session (AEV): functions of the program as plain functions, and that the machine does what they say. -/
import Derived.Test.YthaannpgcbpjkaaTys
import Derived.Test.YthaannpgcbpjkaaProg
import Derived.Laws.Externs
import Derived.Lib.Bytealg
import Derived.Test.YthaannpgcbpjkaaF0
import Derived.Test.YthaannpgcbpjkaaF3
import Derived.Test.YthaannpgcbpjkaaF6
namespace Go.Proofs.Ythaannpgcbpjkaa.Aev
set_option linter.unusedVariables false
set_option linter.unusedSimpArgs false
set_option maxRecDepth 100000
set_option maxHeartbeats 4000000
open Go Go.Proofs.Try
namespace transomlaw42_ReportEvents
def e (r : Bool) : Res := ⟨.v (.one (.d .bool r)), []⟩
abbrev T (δ : Type) : Type := Int → Int → Int → Int → (List D_api_Op) → (List D_api_Reply) → Bool → Int → (List (List D_api_Value)) → Option δ
abbrev A {δ : Type} (g : T δ) : Arm δ := ⟨[.s T_api_Event, .s T_api_Told], [], fun x y => g x.1.1.1 x.1.1.2.1 x.1.1.2.2.1 x.1.1.2.2.2.1 x.1.1.2.2.2.2.1 x.1.1.2.2.2.2.2.1 x.2.1.1.1 x.2.1.1.2.1.1 x.2.1.1.2.1.2.1⟩
abbrev G : Type := T Bool
def ct (g : G) : Ct := mkCt 0 [] [A g] e
abbrev S0 (δ : Type) : Type := Bool → Int → Int → Int → Int → (List D_api_Op) → (List D_api_Reply) → Bool → Int → (List (List D_api_Value)) → Option δ
abbrev A_0 {δ : Type} (s : S0 δ) : Arm δ := ⟨[.k (.ptr 0 0), .k (.ptr 1 0), .d .bool], [.box [.g T_api_Event], .box [.g T_api_Told]], fun x y => s x.2.2.1 y.1.1.1 y.1.1.2.1 y.1.1.2.2.1 y.1.1.2.2.2.1 y.1.1.2.2.2.2.1 y.1.1.2.2.2.2.2.1 y.2.1.1.1 y.2.1.1.2.1.1 y.2.1.1.2.1.2.1⟩
abbrev S1 (δ : Type) : Type := Int → Int → Int → Int → (List D_api_Op) → (List D_api_Reply) → Bool → Int → (List (List D_api_Value)) → Option δ
abbrev A_1 {δ : Type} (s : S1 δ) : Arm δ := ⟨[.k (.ptr 0 0), .k (.ptr 1 0)], [.box [.g T_api_Event], .box [.g T_api_Told]], fun x y => s y.1.1.1 y.1.1.2.1 y.1.1.2.2.1 y.1.1.2.2.2.1 y.1.1.2.2.2.2.1 y.1.1.2.2.2.2.2.1 y.2.1.1.1 y.2.1.1.2.1.1 y.2.1.1.2.1.2.1⟩
abbrev S2 (δ : Type) : Type := Int → Int → Int → Int → Int → (List D_api_Op) → (List D_api_Reply) → Bool → Int → (List (List D_api_Value)) → Option δ
abbrev A_2 {δ : Type} (s : S2 δ) : Arm δ := ⟨[.k (.ptr 0 0), .k (.ptr 1 0), .d (.int .i64)], [.box [.g T_api_Event], .box [.g T_api_Told]], fun x y => s x.2.2.1 y.1.1.1 y.1.1.2.1 y.1.1.2.2.1 y.1.1.2.2.2.1 y.1.1.2.2.2.2.1 y.1.1.2.2.2.2.2.1 y.2.1.1.1 y.2.1.1.2.1.1 y.2.1.1.2.1.2.1⟩
def sg0 (s : S0 Bool) : Seg := mkSg [1, 0, 1] [] [2, 3, 22] [A_0 s] e
def sg1 (s : S1 Bool) : Seg := mkSg [1, 1] [] [2, 3] [A_1 s] e
def sg2 (s : S2 Bool) : Seg := mkSg [4, 1, 0, 1, 1] [] [2, 3, 5] [A_2 s] e
section
variable {β : Type} (g4 : transomlaw13_FewOps.G) (g5 : transomlaw42_awake.G) (g6 : report_Event.G) (g7 : transomref42_Event.G) (g8 : report_Told.G) (g9 : transomref42_Told.G) (s0 : S0 Bool) (s1 : S1 Bool) (s2 : S2 Bool)
noncomputable abbrev env : FEnv := mkEnv prog f3 [(4, transomlaw13_FewOps.ct g4), (5, transomlaw42_awake.ct g5), (6, report_Event.ct g6), (7, transomref42_Event.ct g7), (8, report_Told.ct g8), (9, transomref42_Told.ct g9)] 0 [] [sg0 s0, sg1 s1, sg2 s2]
def c (ret : Bool → Option β) (a0 : Int) (a1 : Int) (a2 : Int) (a3 : Int) (a4 : List D_api_Op) (a5 : List D_api_Reply) (a6 : Bool) (a7 : Int) (a8 : List (List D_api_Value)) : Option β := ((g4 a4 (20 : Int)).bind fun r0 => (bif (r0 == (0 : Int)) then ((s0 true a0 a1 a2 a3 a4 a5 a6 a7 a8).bind ret) else (bif (decide ((a5.length : Int) > (20 : Int))) then ((s0 true a0 a1 a2 a3 a4 a5 a6 a7 a8).bind ret) else ((s0 (decide ((a8.length : Int) > (70 : Int))) a0 a1 a2 a3 a4 a5 a6 a7 a8).bind ret))))
def s0c (ret : Bool → Option β) (x0 : Bool) (x1 : Int) (x2 : Int) (x3 : Int) (x4 : Int) (x5 : List D_api_Op) (x6 : List D_api_Reply) (x7 : Bool) (x8 : Int) (x9 : List (List D_api_Value)) : Option β := (bif x0 then (g5.bind fun r0 => (ret (r0))) else ((s1 x1 x2 x3 x4 x5 x6 x7 x8 x9).bind ret))
def s1c (ret : Bool → Option β) (x0 : Int) (x1 : Int) (x2 : Int) (x3 : Int) (x4 : List D_api_Op) (x5 : List D_api_Reply) (x6 : Bool) (x7 : Int) (x8 : List (List D_api_Value)) : Option β := ((s2 (0 : Int) x0 x1 x2 x3 x4 x5 x6 x7 x8).bind ret)
def s2c (ret : Bool → Option β) (x0 : Int) (x1 : Int) (x2 : Int) (x3 : Int) (x4 : Int) (x5 : List D_api_Op) (x6 : List D_api_Reply) (x7 : Bool) (x8 : Int) (x9 : List (List D_api_Value)) : Option β := (bif (decide (x0 < (x6.length : Int))) then (bif ((decide ((0 : Int) ≤ x0)) && (decide (x0 < (x6.length : Int)))) then (bif (decide (((List.length (elem T_api_Reply x6 x0).2.1) : Int) > (70 : Int))) then (g5.bind fun r0 => (ret (r0))) else ((s2 (IntKind.wrap .i64 (x0 + (1 : Int))) x1 x2 x3 x4 x5 x6 x7 x8 x9).bind ret)) else none) else ((g6 x1 x2 x3 x4 x5 x6).bind fun r1 => ((g7 x1 x2 x3 x4 x5 x6).bind fun r2 => (bif (r1.toList == r2.toList) then ((g8 x7 x8 x9).bind fun r3 => ((g9 x7 x8 x9).bind fun r4 => (bif (r3.toList == r4.toList) then (g5.bind fun r5 => (ret (r5))) else (ret (false))))) else (ret (false))))))
variable {g4} {g5} {g6} {g7} {g8} {g9} {s0} {s1} {s2}
theorem ev : EvA (env g4 g5 g6 g7 g8 g9 s0 s1 s2) [] [0, 1] e (A (c g4 s0 some)) := fun x y => Eq.trans (b := (A (c g4 s0 fun r => some (e r))).G x y) (by kernel_rfl) (by simp only [A, c, bif_bind, sum_bind, oa, os, on, ofs])
theorem s0_ev : EvA (env g4 g5 g6 g7 g8 g9 s0 s1 s2) [1, 0, 1] [2, 3, 22] e (A_0 (s0c g5 s1 some)) := fun x y => Eq.trans (b := (A_0 (s0c g5 s1 fun r => some (e r))).G x y) (by kernel_rfl) (by simp only [A_0, s0c, bif_bind, sum_bind, oa, os, on, ofs])
theorem s1_ev : EvA (env g4 g5 g6 g7 g8 g9 s0 s1 s2) [1, 1] [2, 3] e (A_1 (s1c s2 some)) := fun x y => Eq.trans (b := (A_1 (s1c s2 fun r => some (e r))).G x y) (by kernel_rfl) (by simp only [A_1, s1c, bif_bind, sum_bind, oa, os, on, ofs])
theorem s2_ev : EvA (env g4 g5 g6 g7 g8 g9 s0 s1 s2) [4, 1, 0, 1, 1] [2, 3, 5] e (A_2 (s2c g5 g6 g7 g8 g9 s2 some)) := fun x y => Eq.trans (b := (A_2 (s2c g5 g6 g7 g8 g9 s2 fun r => some (e r))).G x y) (by kernel_rfl) (by simp only [A_2, s2c, bif_bind, sum_bind, oa, os, on, ofs])
end
mutual
def s0 : Nat → S0 Bool
  | 0, _, _, _, _, _, _, _, _, _, _ => none
  | k + 1, x0, x1, x2, x3, x4, x5, x6, x7, x8, x9 => s0c (transomlaw42_awake.f k) (s1 k) some x0 x1 x2 x3 x4 x5 x6 x7 x8 x9
def s1 : Nat → S1 Bool
  | 0, _, _, _, _, _, _, _, _, _ => none
  | k + 1, x0, x1, x2, x3, x4, x5, x6, x7, x8 => s1c (s2 k) some x0 x1 x2 x3 x4 x5 x6 x7 x8
def s2 : Nat → S2 Bool
  | 0, _, _, _, _, _, _, _, _, _, _ => none
  | k + 1, x0, x1, x2, x3, x4, x5, x6, x7, x8, x9 => s2c (transomlaw42_awake.f k) (report_Event.f k) (transomref42_Event.f k) (report_Told.f k) (transomref42_Told.f k) (s2 k) some x0 x1 x2 x3 x4 x5 x6 x7 x8 x9
end
def f (k : Nat) (a0 : Int) (a1 : Int) (a2 : Int) (a3 : Int) (a4 : List D_api_Op) (a5 : List D_api_Reply) (a6 : Bool) (a7 : Int) (a8 : List (List D_api_Value)) : Option Bool := c (transomlaw13_FewOps.f k) (s0 k) some a0 a1 a2 a3 a4 a5 a6 a7 a8
noncomputable abbrev E (k : Nat) : FEnv := env (transomlaw13_FewOps.f k) (transomlaw42_awake.f k) (report_Event.f k) (transomref42_Event.f k) (report_Told.f k) (transomref42_Told.f k) (s0 k) (s1 k) (s2 k)
theorem hE (k : Nat) : EnvOK (E k).toEnv := ctsOK (Lc (transomlaw13_FewOps.ok k) (Lc (transomlaw42_awake.ok k) (Lc (report_Event.ok k) (Lc (transomref42_Event.ok k) (Lc (report_Told.ok k) (Lc (transomref42_Told.ok k) L0))))))
theorem segs_ok : ∀ k, ∀ s ∈ [sg0 (s0 k), sg1 (s1 k), sg2 (s2 k)], SegB prog f3 0 s
  | 0 => (Lc (sg_none (Lc (fun _ _ => rfl) L0)) (Lc (sg_none (Lc (fun _ _ => rfl) L0)) (Lc (sg_none (Lc (fun _ _ => rfl) L0)) L0)))
  | k + 1 => (Lc (sg_ok (hE k) (segs_ok k) (Lc s0_ev L0)) (Lc (sg_ok (hE k) (segs_ok k) (Lc s1_ev L0)) (Lc (sg_ok (hE k) (segs_ok k) (Lc s2_ev L0)) L0)))
theorem ok (k : Nat) : CtOK prog 3 (ct (f k)) := fn_ok func3 rfl (by decide) (hE k) (segs_ok k) (Lc ev L0)
end transomlaw42_ReportEvents
end Go.Proofs.Ythaannpgcbpjkaa.Aev
