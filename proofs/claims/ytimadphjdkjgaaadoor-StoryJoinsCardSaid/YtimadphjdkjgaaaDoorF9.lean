import Derived.Test.YtimadphjdkjgaaaDoorTys
import Derived.Test.YtimadphjdkjgaaaDoorProg
import Derived.Laws.Externs
import Derived.Lib.Bytealg
import Derived.Test.YtimadphjdkjgaaaDoorF0
import Derived.Test.YtimadphjdkjgaaaDoorF3
import Derived.Test.YtimadphjdkjgaaaDoorF7
/- By a program of this session (AEV): functions of the program as plain functions, and that the machine does what they say. -/
namespace Go.Proofs.YtimadphjdkjgaaaDoor.Aev
set_option linter.unusedVariables false
set_option linter.unusedSimpArgs false
set_option maxRecDepth 100000
set_option maxHeartbeats 4000000
open Go Go.Proofs.Tryd
namespace transomlaw37_StoryJoins
def e (r : Bool) : Res := ⟨.v (.one (.d .bool r)), []⟩
abbrev T (δ : Type) : Type := (List D_api_Step) → Option δ
abbrev A {δ : Type} (g : T δ) : Arm δ := ⟨[.d (.sl T_api_Step)], [], fun x y => g x.1⟩
abbrev G : Type := T Bool
def ct (g : G) : Ct := mkCt 0 [] [A g] e
abbrev S0 (δ : Type) : Type := (List D_api_Step) → ByteArray → Int → Int → Option δ
abbrev A_0 {δ : Type} (s : S0 δ) : Arm δ := ⟨[.d (.sl T_api_Step), .d .str, .d (.int .i64), .d (.int .i64)], [], fun x y => s x.1 x.2.1 x.2.2.1 x.2.2.2.1⟩
abbrev S1 (δ : Type) : Type := (List D_api_Step) → ByteArray → Int → Int → Option δ
abbrev A_1 {δ : Type} (s : S1 δ) : Arm δ := ⟨[.d (.sl T_api_Step), .d .str, .d (.int .i64), .d (.int .i64)], [], fun x y => s x.1 x.2.1 x.2.2.1 x.2.2.2.1⟩
abbrev S2 (δ : Type) : Type := ByteArray → (List D_api_Step) → Bool → Option δ
abbrev A_2 {δ : Type} (s : S2 δ) : Arm δ := ⟨[.d .str, .d (.sl T_api_Step), .d .bool], [], fun x y => s x.1 x.2.1 x.2.2.1⟩
abbrev S3 (δ : Type) : Type := ByteArray → (List D_api_Step) → Option δ
abbrev A_3 {δ : Type} (s : S3 δ) : Arm δ := ⟨[.d .str, .d (.sl T_api_Step)], [], fun x y => s x.1 x.2.1⟩
abbrev S4 (δ : Type) : Type := ByteArray → (List D_api_Step) → ByteArray → Int → Option δ
abbrev A_4 {δ : Type} (s : S4 δ) : Arm δ := ⟨[.d .str, .d (.sl T_api_Step), .d .str, .d (.int .i64)], [], fun x y => s x.1 x.2.1 x.2.2.1 x.2.2.2.1⟩
def sg0 (s : S0 Bool) : Seg := mkSg [4, 1, 0, 1, 1, 1, 1] [] [0, 3, 4, 5] [A_0 s] e
def sg1 (s : S1 Bool) : Seg := mkSg [1, 1, 5, 4, 1, 0, 1, 1, 1, 1] [] [0, 3, 4, 5] [A_1 s] e
def sg2 (s : S2 Bool) : Seg := mkSg [1, 0, 1, 1, 1, 1, 1, 1] [] [3, 8, 66] [A_2 s] e
def sg3 (s : S3 Bool) : Seg := mkSg [1, 1, 1, 1, 1, 1, 1] [] [3, 8] [A_3 s] e
def sg4 (s : S4 Bool) : Seg := mkSg [4, 1, 0, 1, 1, 1, 1, 1, 1, 1, 1] [] [3, 8, 11, 12] [A_4 s] e
section
variable {β : Type} (g5 : transomlaw13_FewOp.G) (g7 : transomlaw37_awake.G) (g8 : story_Line.G) (g10 : story_Parse.G) (s0 : S0 Bool) (s1 : S1 Bool) (s2 : S2 Bool) (s3 : S3 Bool) (s4 : S4 Bool)
noncomputable abbrev env : FEnv := mkEnv prog f4 [(5, transomlaw13_FewOp.ct g5), (7, transomlaw37_awake.ct g7), (8, story_Line.ct g8), (10, story_Parse.ct g10)] 0 [] [sg0 s0, sg1 s1, sg2 s2, sg3 s3, sg4 s4]
def c (ret : Bool → Option β) (a0 : List D_api_Step) : Option β := (bif (decide ((a0.length : Int) > (15 : Int))) then (g7.bind fun r0 => (ret (r0))) else ((s0 a0 (ByteArray.mk (List.toArray [])) (0 : Int) (0 : Int)).bind ret))
def s0c (ret : Bool → Option β) (x0 : List D_api_Step) (x1 : ByteArray) (x2 x3 : Int) : Option β := (bif (decide (x3 < (x0.length : Int))) then (bif ((decide ((0 : Int) ≤ x3)) && (decide (x3 < (x0.length : Int)))) then ((g5 (elem T_api_Step x0 x3).2.2.1).bind fun r0 => (bif (r0 == (0 : Int)) then (g7.bind fun r1 => (ret (r1))) else (bif ((decide ((0 : Int) ≤ x3)) && (decide (x3 < (x0.length : Int)))) then ((g8 (elem T_api_Step x0 x3)).bind fun r2 => (bif (r2.2 == (0 : Int)) then (bif ((decide (r2.1.size ≤ (4611686018427387903 : Nat))) && true) then (bif ((decide (x1.size ≤ (4611686018427387903 : Nat))) && (decide ((ByteArray.size (r2.1 ++ (ByteArray.mk (List.toArray [10])))) ≤ (4611686018427387903 : Nat)))) then ((s1 x0 (x1 ++ (r2.1 ++ (ByteArray.mk (List.toArray [10])))) (IntKind.wrap .i64 (x2 + (1 : Int))) x3).bind ret) else none) else none) else ((s1 x0 x1 x2 x3).bind ret))) else none))) else none) else ((g10 x1).bind fun r3 => (bif (r3.2.2 != (0 : Int)) then ((s2 x1 r3.1 true).bind ret) else (bif (r3.2.1 != (0 : Int)) then ((s2 x1 r3.1 true).bind ret) else ((s2 x1 r3.1 ((r3.1.length : Int) != x2)).bind ret)))))
def s1c (ret : Bool → Option β) (x0 : List D_api_Step) (x1 : ByteArray) (x2 x3 : Int) : Option β := ((s0 x0 x1 x2 (IntKind.wrap .i64 (x3 + (1 : Int)))).bind ret)
def s2c (ret : Bool → Option β) (x0 : ByteArray) (x1 : List D_api_Step) (x2 : Bool) : Option β := (bif x2 then (ret (false)) else ((s3 x0 x1).bind ret))
def s3c (ret : Bool → Option β) (x0 : ByteArray) (x1 : List D_api_Step) : Option β := ((s4 x0 x1 (ByteArray.mk (List.toArray [])) (0 : Int)).bind ret)
def s4c (ret : Bool → Option β) (x0 : ByteArray) (x1 : List D_api_Step) (x2 : ByteArray) (x3 : Int) : Option β := (bif (decide (x3 < (x1.length : Int))) then (bif ((decide ((0 : Int) ≤ x3)) && (decide (x3 < (x1.length : Int)))) then ((g8 (elem T_api_Step x1 x3)).bind fun r0 => (bif ((decide (r0.1.size ≤ (4611686018427387903 : Nat))) && true) then (bif ((decide (x2.size ≤ (4611686018427387903 : Nat))) && (decide ((ByteArray.size (r0.1 ++ (ByteArray.mk (List.toArray [10])))) ≤ (4611686018427387903 : Nat)))) then ((s4 x0 x1 (x2 ++ (r0.1 ++ (ByteArray.mk (List.toArray [10])))) (IntKind.wrap .i64 (x3 + (1 : Int)))).bind ret) else none) else none)) else none) else (bif (x2.toList == x0.toList) then (g7.bind fun r1 => (ret (r1))) else (ret (false))))
variable {g5} {g7} {g8} {g10} {s0} {s1} {s2} {s3} {s4}
theorem ev : EvA (env g5 g7 g8 g10 s0 s1 s2 s3 s4) [] [0] e (A (c g7 s0 some)) := fun x y => Eq.trans (b := (A (c g7 s0 fun r => some (e r))).G x y) (by kernel_rfl) (by simp only [A, c, bo, so, oa, os, on, ofs])
theorem s0_ev : EvA (env g5 g7 g8 g10 s0 s1 s2 s3 s4) [4, 1, 0, 1, 1, 1, 1] [0, 3, 4, 5] e (A_0 (s0c g5 g7 g8 g10 s1 s2 some)) := fun x y => Eq.trans (b := (A_0 (s0c g5 g7 g8 g10 s1 s2 fun r => some (e r))).G x y) (by kernel_rfl) (by simp only [A_0, s0c, bo, so, oa, os, on, ofs])
theorem s1_ev : EvA (env g5 g7 g8 g10 s0 s1 s2 s3 s4) [1, 1, 5, 4, 1, 0, 1, 1, 1, 1] [0, 3, 4, 5] e (A_1 (s1c s0 some)) := fun x y => Eq.trans (b := (A_1 (s1c s0 fun r => some (e r))).G x y) (by kernel_rfl) (by simp only [A_1, s1c, bo, so, oa, os, on, ofs])
theorem s2_ev : EvA (env g5 g7 g8 g10 s0 s1 s2 s3 s4) [1, 0, 1, 1, 1, 1, 1, 1] [3, 8, 66] e (A_2 (s2c s3 some)) := fun x y => Eq.trans (b := (A_2 (s2c s3 fun r => some (e r))).G x y) (by kernel_rfl) (by simp only [A_2, s2c, bo, so, oa, os, on, ofs])
theorem s3_ev : EvA (env g5 g7 g8 g10 s0 s1 s2 s3 s4) [1, 1, 1, 1, 1, 1, 1] [3, 8] e (A_3 (s3c s4 some)) := fun x y => Eq.trans (b := (A_3 (s3c s4 fun r => some (e r))).G x y) (by kernel_rfl) (by simp only [A_3, s3c, bo, so, oa, os, on, ofs])
theorem s4_ev : EvA (env g5 g7 g8 g10 s0 s1 s2 s3 s4) [4, 1, 0, 1, 1, 1, 1, 1, 1, 1, 1] [3, 8, 11, 12] e (A_4 (s4c g7 g8 s4 some)) := fun x y => Eq.trans (b := (A_4 (s4c g7 g8 s4 fun r => some (e r))).G x y) (by kernel_rfl) (by simp only [A_4, s4c, bo, so, oa, os, on, ofs])
end
mutual
def s0 : Nat → S0 Bool
 | 0, _, _, _, _ => none
 | k + 1, x0, x1, x2, x3 => s0c (transomlaw13_FewOp.f k) (transomlaw37_awake.f k) (story_Line.f k) (story_Parse.f k) (s1 k) (s2 k) some x0 x1 x2 x3
def s1 : Nat → S1 Bool
 | 0, _, _, _, _ => none
 | k + 1, x0, x1, x2, x3 => s1c (s0 k) some x0 x1 x2 x3
def s2 : Nat → S2 Bool
 | 0, _, _, _ => none
 | k + 1, x0, x1, x2 => s2c (s3 k) some x0 x1 x2
def s3 : Nat → S3 Bool
 | 0, _, _ => none
 | k + 1, x0, x1 => s3c (s4 k) some x0 x1
def s4 : Nat → S4 Bool
 | 0, _, _, _, _ => none
 | k + 1, x0, x1, x2, x3 => s4c (transomlaw37_awake.f k) (story_Line.f k) (s4 k) some x0 x1 x2 x3
end
def f (k : Nat) (a0 : List D_api_Step) : Option Bool := c (transomlaw37_awake.f k) (s0 k) some a0
noncomputable abbrev E (k : Nat) : FEnv := env (transomlaw13_FewOp.f k) (transomlaw37_awake.f k) (story_Line.f k) (story_Parse.f k) (s0 k) (s1 k) (s2 k) (s3 k) (s4 k)
theorem hE (k : Nat) : EnvOK (E k).toEnv := ctsOK (Lc (transomlaw13_FewOp.ok k) (Lc (transomlaw37_awake.ok k) (Lc (story_Line.ok k) (Lc (story_Parse.ok k) L0))))
theorem sk : ∀ k, ∀ s ∈ [sg0 (s0 k), sg1 (s1 k), sg2 (s2 k), sg3 (s3 k), sg4 (s4 k)], SegB prog f4 0 s
 | 0 => (Lc (sn (Lc (fun _ _ => rfl) L0)) (Lc (sn (Lc (fun _ _ => rfl) L0)) (Lc (sn (Lc (fun _ _ => rfl) L0)) (Lc (sn (Lc (fun _ _ => rfl) L0)) (Lc (sn (Lc (fun _ _ => rfl) L0)) L0)))))
 | k + 1 => (Lc (sg_ok (hE k) (sk k) (Lc s0_ev L0)) (Lc (sg_ok (hE k) (sk k) (Lc s1_ev L0)) (Lc (sg_ok (hE k) (sk k) (Lc s2_ev L0)) (Lc (sg_ok (hE k) (sk k) (Lc s3_ev L0)) (Lc (sg_ok (hE k) (sk k) (Lc s4_ev L0)) L0)))))
theorem ok (k : Nat) : CtOK prog 4 (ct (f k)) := fn_ok func4 rfl (by decide) (hE k) (sk k) (Lc ev L0)
end transomlaw37_StoryJoins
end Go.Proofs.YtimadphjdkjgaaaDoor.Aev
