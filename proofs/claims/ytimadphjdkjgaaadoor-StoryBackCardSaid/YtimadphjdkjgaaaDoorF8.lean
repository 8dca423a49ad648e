import Derived.Test.YtimadphjdkjgaaaDoorTys
import Derived.Test.YtimadphjdkjgaaaDoorProg
import Derived.Laws.Externs
import Derived.Lib.Bytealg
import Derived.Test.YtimadphjdkjgaaaDoorF0
import Derived.Test.YtimadphjdkjgaaaDoorF3
import Derived.Test.YtimadphjdkjgaaaDoorF6
import Derived.Test.YtimadphjdkjgaaaDoorF7
/- By a program of this session (AEV): functions of the program as plain functions, and that the machine does what they say. -/
namespace Go.Proofs.YtimadphjdkjgaaaDoor.Aev
set_option linter.unusedVariables false
set_option linter.unusedSimpArgs false
set_option maxRecDepth 100000
set_option maxHeartbeats 4000000
open Go Go.Proofs.Tryd
namespace transomlaw37_StoryBack
def e (r : Bool) : Res := ⟨.v (.one (.d .bool r)), []⟩
abbrev T (δ : Type) : Type := D_api_Step → ByteArray → Option δ
abbrev A {δ : Type} (g : T δ) : Arm δ := ⟨[.s T_api_Step, .d .str], [], fun x y => g x.1.1 x.2.1⟩
abbrev G : Type := T Bool
def ct (g : G) : Ct := mkCt 0 [] [A g] e
abbrev S0 (δ : Type) : Type := ByteArray → Bool → D_api_Step → Option δ
abbrev A_0 {δ : Type} (s : S0 δ) : Arm δ := ⟨[.d .str, .k (.ptr 0 0), .d .bool], [.box [.g T_api_Step]], fun x y => s x.1 x.2.2.1 y.1.1⟩
abbrev S1 (δ : Type) : Type := ByteArray → D_api_Step → Option δ
abbrev A_1 {δ : Type} (s : S1 δ) : Arm δ := ⟨[.d .str, .k (.ptr 0 0)], [.box [.g T_api_Step]], fun x y => s x.1 y.1.1⟩
abbrev S2 (δ : Type) : Type := ByteArray → Bool → Option δ
abbrev A_2 {δ : Type} (s : S2 δ) : Arm δ := ⟨[.d .str, .d .bool], [], fun x y => s x.1 x.2.1⟩
abbrev S3 (δ : Type) : Type := ByteArray → Option δ
abbrev A_3 {δ : Type} (s : S3 δ) : Arm δ := ⟨[.d .str], [], fun x y => s x.1⟩
def sg0 (s : S0 Bool) : Seg := mkSg [1, 0, 1] [] [1, 2, 30] [A_0 s] e
def sg1 (s : S1 Bool) : Seg := mkSg [1, 1] [] [1, 2] [A_1 s] e
def sg2 (s : S2 Bool) : Seg := mkSg [1, 1, 1, 2, 1, 0, 1, 1, 1] [] [1, 66] [A_2 s] e
def sg3 (s : S3 Bool) : Seg := mkSg [1, 1, 1, 1] [] [1] [A_3 s] e
section
variable {β : Type} (g5 : transomlaw13_FewOp.G) (g6 : transomlaw10_Few.G) (g7 : transomlaw37_awake.G) (g8 : story_Line.G) (g9 : story_Read.G) (s0 : S0 Bool) (s1 : S1 Bool) (s2 : S2 Bool) (s3 : S3 Bool)
noncomputable abbrev env : FEnv := mkEnv prog f3 [(5, transomlaw13_FewOp.ct g5), (6, transomlaw10_Few.ct g6), (7, transomlaw37_awake.ct g7), (8, story_Line.ct g8), (9, story_Read.ct g9)] 0 [] [sg0 s0, sg1 s1, sg2 s2, sg3 s3]
def c (ret : Bool → Option β) (a0 : D_api_Step) (a1 : ByteArray) : Option β := ((g5 a0.2.2.1).bind fun r0 => (bif (r0 == (0 : Int)) then ((s0 a1 true a0).bind ret) else ((g6 a0.2.2.1.2.2.2.2.2.2.1).bind fun r1 => (bif (r1 == (0 : Int)) then ((s0 a1 true a0).bind ret) else ((s0 a1 (decide ((a1.size : Int) > (2000 : Int))) a0).bind ret)))))
def s0c (ret : Bool → Option β) (x0 : ByteArray) (x1 : Bool) (x2 : D_api_Step) : Option β := (bif x1 then (g7.bind fun r0 => (ret (r0))) else ((s1 x0 x2).bind ret))
def s1c (ret : Bool → Option β) (x0 : ByteArray) (x1 : D_api_Step) : Option β := ((g8 x1).bind fun r0 => (bif (r0.2 == (0 : Int)) then ((g9 r0.1).bind fun r1 => ((g8 r1.1).bind fun r2 => (bif (r1.2 != (0 : Int)) then ((s2 x0 true).bind ret) else (bif (r2.2 != (0 : Int)) then ((s2 x0 true).bind ret) else (bif (!(r0.1.toList == r2.1.toList)) then ((s2 x0 true).bind ret) else ((s2 x0 (r1.1.1 != x1.1)).bind ret)))))) else ((s3 x0).bind ret)))
def s2c (ret : Bool → Option β) (x0 : ByteArray) (x1 : Bool) : Option β := (bif x1 then (ret (false)) else ((s3 x0).bind ret))
def s3c (ret : Bool → Option β) (x0 : ByteArray) : Option β := ((g9 x0).bind fun r0 => ((g8 r0.1).bind fun r1 => (bif (r0.2 != (0 : Int)) then (g7.bind fun r2 => (ret (r2))) else (bif (r1.2 == (0 : Int)) then (bif (r1.1.toList == x0.toList) then (g7.bind fun r3 => (ret (r3))) else (ret (false))) else (ret (false))))))
variable {g5} {g6} {g7} {g8} {g9} {s0} {s1} {s2} {s3}
theorem ev : EvA (env g5 g6 g7 g8 g9 s0 s1 s2 s3) [] [0, 1] e (A (c g5 g6 s0 some)) := fun x y => Eq.trans (b := (A (c g5 g6 s0 fun r => some (e r))).G x y) (by kernel_rfl) (by simp only [A, c, bo, so, oa, os, on, ofs])
theorem s0_ev : EvA (env g5 g6 g7 g8 g9 s0 s1 s2 s3) [1, 0, 1] [1, 2, 30] e (A_0 (s0c g7 s1 some)) := fun x y => Eq.trans (b := (A_0 (s0c g7 s1 fun r => some (e r))).G x y) (by kernel_rfl) (by simp only [A_0, s0c, bo, so, oa, os, on, ofs])
theorem s1_ev : EvA (env g5 g6 g7 g8 g9 s0 s1 s2 s3) [1, 1] [1, 2] e (A_1 (s1c g8 g9 s2 s3 some)) := fun x y => Eq.trans (b := (A_1 (s1c g8 g9 s2 s3 fun r => some (e r))).G x y) (by kernel_rfl) (by simp only [A_1, s1c, bo, so, oa, os, on, ofs])
theorem s2_ev : EvA (env g5 g6 g7 g8 g9 s0 s1 s2 s3) [1, 1, 1, 2, 1, 0, 1, 1, 1] [1, 66] e (A_2 (s2c s3 some)) := fun x y => Eq.trans (b := (A_2 (s2c s3 fun r => some (e r))).G x y) (by kernel_rfl) (by simp only [A_2, s2c, bo, so, oa, os, on, ofs])
theorem s3_ev : EvA (env g5 g6 g7 g8 g9 s0 s1 s2 s3) [1, 1, 1, 1] [1] e (A_3 (s3c g7 g8 g9 some)) := fun x y => Eq.trans (b := (A_3 (s3c g7 g8 g9 fun r => some (e r))).G x y) (by kernel_rfl) (by simp only [A_3, s3c, bo, so, oa, os, on, ofs])
end
mutual
def s0 : Nat → S0 Bool
 | 0, _, _, _ => none
 | k + 1, x0, x1, x2 => s0c (transomlaw37_awake.f k) (s1 k) some x0 x1 x2
def s1 : Nat → S1 Bool
 | 0, _, _ => none
 | k + 1, x0, x1 => s1c (story_Line.f k) (story_Read.f k) (s2 k) (s3 k) some x0 x1
def s2 : Nat → S2 Bool
 | 0, _, _ => none
 | k + 1, x0, x1 => s2c (s3 k) some x0 x1
def s3 : Nat → S3 Bool
 | 0, _ => none
 | k + 1, x0 => s3c (transomlaw37_awake.f k) (story_Line.f k) (story_Read.f k) some x0
end
def f (k : Nat) (a0 : D_api_Step) (a1 : ByteArray) : Option Bool := c (transomlaw13_FewOp.f k) (transomlaw10_Few.f k) (s0 k) some a0 a1
noncomputable abbrev E (k : Nat) : FEnv := env (transomlaw13_FewOp.f k) (transomlaw10_Few.f k) (transomlaw37_awake.f k) (story_Line.f k) (story_Read.f k) (s0 k) (s1 k) (s2 k) (s3 k)
theorem hE (k : Nat) : EnvOK (E k).toEnv := ctsOK (Lc (transomlaw13_FewOp.ok k) (Lc (transomlaw10_Few.ok k) (Lc (transomlaw37_awake.ok k) (Lc (story_Line.ok k) (Lc (story_Read.ok k) L0)))))
theorem sk : ∀ k, ∀ s ∈ [sg0 (s0 k), sg1 (s1 k), sg2 (s2 k), sg3 (s3 k)], SegB prog f3 0 s
 | 0 => (Lc (sn (Lc (fun _ _ => rfl) L0)) (Lc (sn (Lc (fun _ _ => rfl) L0)) (Lc (sn (Lc (fun _ _ => rfl) L0)) (Lc (sn (Lc (fun _ _ => rfl) L0)) L0))))
 | k + 1 => (Lc (sg_ok (hE k) (sk k) (Lc s0_ev L0)) (Lc (sg_ok (hE k) (sk k) (Lc s1_ev L0)) (Lc (sg_ok (hE k) (sk k) (Lc s2_ev L0)) (Lc (sg_ok (hE k) (sk k) (Lc s3_ev L0)) L0))))
theorem ok (k : Nat) : CtOK prog 3 (ct (f k)) := fn_ok func3 rfl (by decide) (hE k) (sk k) (Lc ev L0)
end transomlaw37_StoryBack
end Go.Proofs.YtimadphjdkjgaaaDoor.Aev
