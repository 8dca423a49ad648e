/- By a program of this session (AEV): functions of the program as plain functions, and that the machine does what they say. -/
import Derived.Test.YtijjlpgcpdapnaaGreatDoorTys
import Derived.Test.YtijjlpgcpdapnaaGreatDoorProg
import Derived.Laws.Externs
import Derived.Lib.Bytealg
import Derived.Test.YtijjlpgcpdapnaaGreatDoorF0
import Derived.Test.YtijjlpgcpdapnaaGreatDoorF9
namespace Go.Proofs.YtijjlpgcpdapnaaGreatDoor.Aev
set_option linter.unusedVariables false
set_option linter.unusedSimpArgs false
set_option maxRecDepth 100000
set_option maxHeartbeats 4000000
open Go Go.Proofs.Tryz
namespace transomlaw11_FewRows
def e (r : Int) : Res := ⟨.v (.one (.d (.int .i64) r)), []⟩
abbrev T (δ : Type) : Type := (List (List D_api_Value)) → Option δ
abbrev A {δ : Type} (g : T δ) : Arm δ := ⟨[.d (.sl (.sl T_api_Value))], [], fun x y => g x.1⟩
abbrev G : Type := T Int
def ct (g : G) : Ct := mkCt 0 [] [A g] e
abbrev S0 (δ : Type) : Type := (List (List D_api_Value)) → Int → Option δ
abbrev A_0 {δ : Type} (s : S0 δ) : Arm δ := ⟨[.d (.sl (.sl T_api_Value)), .d (.int .i64)], [], fun x y => s x.1 x.2.1⟩
def sg0 (s : S0 Int) : Seg := mkSg [4, 1, 0, 1, 1] [] [0, 3] [A_0 s] e
section
variable {β : Type} (g8 : transomlaw05_Few.G) (s0 : S0 Int)
noncomputable abbrev env : FEnv := mkEnv prog f13 [(8, transomlaw05_Few.ct g8)] 0 [] [sg0 s0]
def c (ret : Int → Option β) (a0 : List (List D_api_Value)) : Option β := (bif (decide ((a0.length : Int) > (30 : Int))) then (ret ((0 : Int))) else ((s0 a0 (0 : Int)).bind ret))
def s0c (ret : Int → Option β) (x0 : List (List D_api_Value)) (x1 : Int) : Option β := (bif (decide (x1 < (x0.length : Int))) then (bif ((decide ((0 : Int) ≤ x1)) && (decide (x1 < (x0.length : Int)))) then ((g8 (elem (Ty.sl T_api_Value) x0 x1)).bind fun r0 => (bif (r0 == (0 : Int)) then (ret ((0 : Int))) else ((s0 x0 (IntKind.wrap .i64 (x1 + (1 : Int)))).bind ret))) else none) else (ret ((1 : Int))))
variable {g8} {s0}
theorem ev : EvA (env g8 s0) [] [0] e (A (c s0 some)) := fun x y => Eq.trans (b := (A (c s0 fun r => some (e r))).G x y) (by kernel_rfl) (by simp only [A, c, bif_bind, sum_bind, oa, os, on, ofs])
theorem s0_ev : EvA (env g8 s0) [4, 1, 0, 1, 1] [0, 3] e (A_0 (s0c g8 s0 some)) := fun x y => Eq.trans (b := (A_0 (s0c g8 s0 fun r => some (e r))).G x y) (by kernel_rfl) (by simp only [A_0, s0c, bif_bind, sum_bind, oa, os, on, ofs])
end
def s0 : Nat → S0 Int
  | 0, _, _ => none
  | k + 1, x0, x1 => s0c (transomlaw05_Few.f k) (s0 k) some x0 x1
def f (k : Nat) (a0 : List (List D_api_Value)) : Option Int := c (s0 k) some a0
noncomputable abbrev E (k : Nat) : FEnv := env (transomlaw05_Few.f k) (s0 k)
theorem hE (k : Nat) : EnvOK (E k).toEnv := ctsOK (Lc (transomlaw05_Few.ok k) L0)
theorem segs_ok : ∀ k, ∀ s ∈ [sg0 (s0 k)], SegB prog f13 0 s
  | 0 => (Lc (sg_none (Lc (fun _ _ => rfl) L0)) L0)
  | k + 1 => (Lc (sg_ok (hE k) (segs_ok k) (Lc s0_ev L0)) L0)
theorem ok (k : Nat) : CtOK prog 13 (ct (f k)) := fn_ok func13 rfl (by decide) (hE k) (segs_ok k) (Lc ev L0)
end transomlaw11_FewRows
namespace transomref11_Rows
abbrev R : Type := (List (List (List D_api_Value))) × Int × Int
def e (r : R) : Res := ⟨.tup [(.one (.d (.sl (.sl (.sl T_api_Value))) r.1)), (.one (.d (.int .i64) r.2.1)), (.one (.d (.int .i64) r.2.2))], []⟩
abbrev T (δ : Type) : Type := ByteArray → Int → (List D_api_Col) → D_api_Change → (List (List D_api_Value)) → Option δ
abbrev A {δ : Type} (g : T δ) : Arm δ := ⟨[.s T_api_Table, .s T_api_Change, .d (.sl (.sl T_api_Value))], [], fun x y => g x.1.1.1 x.1.1.2.1 x.1.1.2.2.1 x.2.1.1 x.2.2.1⟩
abbrev G : Type := T R
def ct (g : G) : Ct := mkCt 0 [] [A g] e
abbrev S0 (δ : Type) : Type := (List (List D_api_Value)) → Int → Int → Bool → ByteArray → Int → (List D_api_Col) → D_api_Change → Option δ
abbrev A_0 {δ : Type} (s : S0 δ) : Arm δ := ⟨[.d (.sl (.sl T_api_Value)), .k (.ptr 0 0), .k (.ptr 1 0), .d (.int .i64), .d (.int .i64), .d .bool], [.box [.g T_api_Table], .box [.g T_api_Change]], fun x y => s x.1 x.2.2.2.1 x.2.2.2.2.1 x.2.2.2.2.2.1 y.1.1.1 y.1.1.2.1 y.1.1.2.2.1 y.2.1.1⟩
abbrev S1 (δ : Type) : Type := (List (List D_api_Value)) → Int → ByteArray → Int → (List D_api_Col) → D_api_Change → Option δ
abbrev A_1 {δ : Type} (s : S1 δ) : Arm δ := ⟨[.d (.sl (.sl T_api_Value)), .k (.ptr 0 0), .k (.ptr 1 0), .d (.int .i64)], [.box [.g T_api_Table], .box [.g T_api_Change]], fun x y => s x.1 x.2.2.2.1 y.1.1.1 y.1.1.2.1 y.1.1.2.2.1 y.2.1.1⟩
abbrev S2 (δ : Type) : Type := (List (List D_api_Value)) → Int → Bool → ByteArray → Int → (List D_api_Col) → D_api_Change → Option δ
abbrev A_2 {δ : Type} (s : S2 δ) : Arm δ := ⟨[.d (.sl (.sl T_api_Value)), .k (.ptr 0 0), .k (.ptr 1 0), .d (.int .i64), .d .bool], [.box [.g T_api_Table], .box [.g T_api_Change]], fun x y => s x.1 x.2.2.2.1 x.2.2.2.2.1 y.1.1.1 y.1.1.2.1 y.1.1.2.2.1 y.2.1.1⟩
abbrev S3 (δ : Type) : Type := (List (List D_api_Value)) → Int → ByteArray → Int → (List D_api_Col) → D_api_Change → Option δ
abbrev A_3 {δ : Type} (s : S3 δ) : Arm δ := ⟨[.d (.sl (.sl T_api_Value)), .k (.ptr 0 0), .k (.ptr 1 0), .d (.int .i64)], [.box [.g T_api_Table], .box [.g T_api_Change]], fun x y => s x.1 x.2.2.2.1 y.1.1.1 y.1.1.2.1 y.1.1.2.2.1 y.2.1.1⟩
abbrev transomref11_Rows_4.S0 (δ : Type) : Type := (List (List D_api_Value)) → Int → Int → ByteArray → Int → (List D_api_Col) → D_api_Change → (List (List D_api_Value)) → Option δ
abbrev A_4_0 {δ : Type} (s : transomref11_Rows_4.S0 δ) : Arm δ := ⟨[.d (.sl (.sl T_api_Value)), .k (.ptr 0 0), .k (.ptr 1 0), .d (.int .i64), .k (.slb 2 1), .d (.int .i64)], [.box [.g T_api_Table], .box [.g T_api_Change], .box [.c (.own 3)], .own (.sl T_api_Value) false], fun x y => s x.1 x.2.2.2.1 x.2.2.2.2.2.1 y.1.1.1 y.1.1.2.1 y.1.1.2.2.1 y.2.1.1 y.2.2.2.1⟩
abbrev transomref11_Rows_4.S1 (δ : Type) : Type := (List (List D_api_Value)) → Int → Int → ByteArray → Int → (List D_api_Col) → D_api_Change → (List (List D_api_Value)) → (List (List D_api_Value)) → Option δ
abbrev A_4_1 {δ : Type} (s : transomref11_Rows_4.S1 δ) : Arm δ := ⟨[.d (.sl (.sl T_api_Value)), .k (.ptr 0 0), .k (.ptr 1 0), .d (.int .i64), .k (.slb 2 2), .d (.int .i64)], [.box [.g T_api_Table], .box [.g T_api_Change], .box [.c (.own 3), .c (.own 4)], .own (.sl T_api_Value) false, .own (.sl T_api_Value) false], fun x y => s x.1 x.2.2.2.1 x.2.2.2.2.2.1 y.1.1.1 y.1.1.2.1 y.1.1.2.2.1 y.2.1.1 y.2.2.2.1 y.2.2.2.2.1⟩
abbrev transomref11_Rows_4.S2 (δ : Type) : Type := (List (List D_api_Value)) → Int → Int → ByteArray → Int → (List D_api_Col) → D_api_Change → (List (List (List D_api_Value))) → Option δ
abbrev A_4_2 {δ : Type} (s : transomref11_Rows_4.S2 δ) : Arm δ := ⟨[.d (.sl (.sl T_api_Value)), .k (.ptr 0 0), .k (.ptr 1 0), .d (.int .i64), .k (.own 2), .d (.int .i64)], [.box [.g T_api_Table], .box [.g T_api_Change], .own (.sl (.sl T_api_Value)) true], fun x y => s x.1 x.2.2.2.1 x.2.2.2.2.2.1 y.1.1.1 y.1.1.2.1 y.1.1.2.2.1 y.2.1.1 y.2.2.1⟩
def sg0 (s : S0 R) : Seg := mkSg [1, 4, 1, 0, 1, 1] [] [2, 3, 4, 9, 16, 17] [A_0 s] e
def sg1 (s : S1 R) : Seg := mkSg [1, 1, 1] [] [2, 3, 4, 9] [A_1 s] e
def sg2 (s : S2 R) : Seg := mkSg [1, 0, 1, 1, 1] [] [2, 3, 4, 9, 30] [A_2 s] e
def sg3 (s : S3 R) : Seg := mkSg [1, 1, 1, 1] [] [2, 3, 4, 9] [A_3 s] e
def sg4 (s0 : transomref11_Rows_4.S0 R) (s1 : transomref11_Rows_4.S1 R) (s2 : transomref11_Rows_4.S2 R) : Seg := mkSg [4, 1, 0, 1, 1, 1, 1, 1] [.cellOwn 10 0 (.sl T_api_Value), .cellOwn 10 1 (.sl T_api_Value)] [2, 3, 4, 9, 10, 11] [A_4_0 s0, A_4_1 s1, A_4_2 s2] e
section
variable {β : Type} (g11 : transomref11_Row.G) (s0 : S0 R) (s1 : S1 R) (s2 : S2 R) (s3 : S3 R) (s4_0 : transomref11_Rows_4.S0 R) (s4_1 : transomref11_Rows_4.S1 R) (s4_2 : transomref11_Rows_4.S2 R)
noncomputable abbrev env : FEnv := mkEnv prog f15 [(11, transomref11_Row.ct g11)] 0 [] [sg0 s0, sg1 s1, sg2 s2, sg3 s3, sg4 s4_0 s4_1 s4_2]
def c (ret : R → Option β) (a0 : ByteArray) (a1 : Int) (a2 : List D_api_Col) (a3 : D_api_Change) (a4 : List (List D_api_Value)) : Option β := (bif (a3.1 == (2 : Int)) then ((s0 a4 (0 : Int) a3.1 (a3.1 == (2 : Int)) a0 a1 a2 a3).bind ret) else (bif (a3.1 == (3 : Int)) then ((s0 a4 (0 : Int) a3.1 (a3.1 == (3 : Int)) a0 a1 a2 a3).bind ret) else (bif (a3.1 == (4 : Int)) then ((s0 a4 (0 : Int) a3.1 (a3.1 == (4 : Int)) a0 a1 a2 a3).bind ret) else ((s0 a4 (0 : Int) a3.1 (a3.1 == (6 : Int)) a0 a1 a2 a3).bind ret))))
def s0c (ret : R → Option β) (x0 : List (List D_api_Value)) (x1 : Int) (x2 : Int) (x3 : Bool) (x4 : ByteArray) (x5 : Int) (x6 : List D_api_Col) (x7 : D_api_Change) : Option β := (bif x3 then ((s1 x0 (1 : Int) x4 x5 x6 x7).bind ret) else (bif (x2 == (5 : Int)) then ((s1 x0 (2 : Int) x4 x5 x6 x7).bind ret) else ((s1 x0 x1 x4 x5 x6 x7).bind ret)))
def s1c (ret : R → Option β) (x0 : List (List D_api_Value)) (x1 : Int) (x2 : ByteArray) (x3 : Int) (x4 : List D_api_Col) (x5 : D_api_Change) : Option β := (bif ((x0.length : Int) == (0 : Int)) then ((s2 x0 x1 (x1 == (0 : Int)) x2 x3 x4 x5).bind ret) else ((s2 x0 x1 false x2 x3 x4 x5).bind ret))
def s2c (ret : R → Option β) (x0 : List (List D_api_Value)) (x1 : Int) (x2 : Bool) (x3 : ByteArray) (x4 : Int) (x5 : List D_api_Col) (x6 : D_api_Change) : Option β := (bif x2 then (ret ([], (0 : Int), (1 : Int))) else ((s3 x0 x1 x3 x4 x5 x6).bind ret))
def s3c (ret : R → Option β) (x0 : List (List D_api_Value)) (x1 : Int) (x2 : ByteArray) (x3 : Int) (x4 : List D_api_Col) (x5 : D_api_Change) : Option β := (bif (((decide ((0 : Int) ≤ x1)) && (decide (x1 ≤ x1))) && (decide ((x1 * (24 : Int)) ≤ (35184372088832 : Int)))) then (bif ((decide (x1 = (1 : Int))) && (decide (x1 = (1 : Int)))) then ((s4_0 x0 x1 (0 : Int) x2 x3 x4 x5 []).bind ret) else (bif ((decide (x1 = (2 : Int))) && (decide (x1 = (2 : Int)))) then ((s4_1 x0 x1 (0 : Int) x2 x3 x4 x5 [] []).bind ret) else ((s4_2 x0 x1 (0 : Int) x2 x3 x4 x5 (List.replicate (Int.toNat x1) [])).bind ret))) else none)
def s4_0c (ret : R → Option β) (x0 : List (List D_api_Value)) (x1 : Int) (x2 : Int) (x3 : ByteArray) (x4 : Int) (x5 : List D_api_Col) (x6 : D_api_Change) (x7 : List (List D_api_Value)) : Option β := (bif (decide (x2 < (x0.length : Int))) then (bif ((decide ((0 : Int) ≤ x2)) && (decide (x2 < (x0.length : Int)))) then ((g11 x3 x4 x5 x6 (elem (Ty.sl T_api_Value) x0 x2)).bind fun r0 => (bif (r0.2 != (0 : Int)) then (ret ([], x2, r0.2)) else (bif (decide ((0 : Int) < x1)) then (bif (true && (decide ((0 : Int) < (r0.1.length : Int)))) then (bif (decide (((x7.length + (1 : Nat)) * (24 : Nat)) ≤ (35184372088832 : Nat))) then (bif (decide ((1 : Int) < x1)) then none else ((s4_0 x0 x1 (IntKind.wrap .i64 (x2 + (1 : Int))) x3 x4 x5 x6 (x7 ++ [(elem (Ty.sl T_api_Value) r0.1 (0 : Int))])).bind ret)) else none) else none) else ((s4_0 x0 x1 (IntKind.wrap .i64 (x2 + (1 : Int))) x3 x4 x5 x6 x7).bind ret)))) else none) else (ret ([x7], (0 : Int), (0 : Int))))
def s4_1c (ret : R → Option β) (x0 : List (List D_api_Value)) (x1 : Int) (x2 : Int) (x3 : ByteArray) (x4 : Int) (x5 : List D_api_Col) (x6 : D_api_Change) (x7 : List (List D_api_Value)) (x8 : List (List D_api_Value)) : Option β := (bif (decide (x2 < (x0.length : Int))) then (bif ((decide ((0 : Int) ≤ x2)) && (decide (x2 < (x0.length : Int)))) then ((g11 x3 x4 x5 x6 (elem (Ty.sl T_api_Value) x0 x2)).bind fun r0 => (bif (r0.2 != (0 : Int)) then (ret ([], x2, r0.2)) else (bif (decide ((0 : Int) < x1)) then (bif (true && (decide ((0 : Int) < (r0.1.length : Int)))) then (bif (decide (((x7.length + (1 : Nat)) * (24 : Nat)) ≤ (35184372088832 : Nat))) then (bif (decide ((1 : Int) < x1)) then (bif (true && (decide ((1 : Int) < (r0.1.length : Int)))) then (bif (decide (((x8.length + (1 : Nat)) * (24 : Nat)) ≤ (35184372088832 : Nat))) then (bif (decide ((2 : Int) < x1)) then none else ((s4_1 x0 x1 (IntKind.wrap .i64 (x2 + (1 : Int))) x3 x4 x5 x6 (x7 ++ [(elem (Ty.sl T_api_Value) r0.1 (0 : Int))]) (x8 ++ [(elem (Ty.sl T_api_Value) r0.1 (1 : Int))])).bind ret)) else none) else none) else ((s4_1 x0 x1 (IntKind.wrap .i64 (x2 + (1 : Int))) x3 x4 x5 x6 (x7 ++ [(elem (Ty.sl T_api_Value) r0.1 (0 : Int))]) x8).bind ret)) else none) else none) else ((s4_1 x0 x1 (IntKind.wrap .i64 (x2 + (1 : Int))) x3 x4 x5 x6 x7 x8).bind ret)))) else none) else (ret ([x7, x8], (0 : Int), (0 : Int))))
def s4_2c (ret : R → Option β) (x0 : List (List D_api_Value)) (x1 : Int) (x2 : Int) (x3 : ByteArray) (x4 : Int) (x5 : List D_api_Col) (x6 : D_api_Change) (x7 : List (List (List D_api_Value))) : Option β := (bif (decide (x2 < (x0.length : Int))) then (bif ((decide ((0 : Int) ≤ x2)) && (decide (x2 < (x0.length : Int)))) then ((g11 x3 x4 x5 x6 (elem (Ty.sl T_api_Value) x0 x2)).bind fun r0 => (bif (r0.2 != (0 : Int)) then (ret ([], x2, r0.2)) else (bif (decide ((0 : Int) < x1)) then (bif (true && (decide ((0 : Int) < (x7.length : Int)))) then (bif (true && (decide ((0 : Int) < (r0.1.length : Int)))) then none else none) else none) else ((s4_2 x0 x1 (IntKind.wrap .i64 (x2 + (1 : Int))) x3 x4 x5 x6 x7).bind ret)))) else none) else (ret (x7, (0 : Int), (0 : Int))))
variable {g11} {s0} {s1} {s2} {s3} {s4_0} {s4_1} {s4_2}
theorem ev : EvA (env g11 s0 s1 s2 s3 s4_0 s4_1 s4_2) [] [0, 1, 2] e (A (c s0 some)) := fun x y => Eq.trans (b := (A (c s0 fun r => some (e r))).G x y) (by kernel_rfl) (by simp only [A, c, bif_bind, sum_bind, oa, os, on, ofs])
theorem s0_ev : EvA (env g11 s0 s1 s2 s3 s4_0 s4_1 s4_2) [1, 4, 1, 0, 1, 1] [2, 3, 4, 9, 16, 17] e (A_0 (s0c s1 some)) := fun x y => Eq.trans (b := (A_0 (s0c s1 fun r => some (e r))).G x y) (by kernel_rfl) (by simp only [A_0, s0c, bif_bind, sum_bind, oa, os, on, ofs])
theorem s1_ev : EvA (env g11 s0 s1 s2 s3 s4_0 s4_1 s4_2) [1, 1, 1] [2, 3, 4, 9] e (A_1 (s1c s2 some)) := fun x y => Eq.trans (b := (A_1 (s1c s2 fun r => some (e r))).G x y) (by kernel_rfl) (by simp only [A_1, s1c, bif_bind, sum_bind, oa, os, on, ofs])
theorem s2_ev : EvA (env g11 s0 s1 s2 s3 s4_0 s4_1 s4_2) [1, 0, 1, 1, 1] [2, 3, 4, 9, 30] e (A_2 (s2c s3 some)) := fun x y => Eq.trans (b := (A_2 (s2c s3 fun r => some (e r))).G x y) (by kernel_rfl) (by simp only [A_2, s2c, bif_bind, sum_bind, oa, os, on, ofs])
theorem s3_ev : EvA (env g11 s0 s1 s2 s3 s4_0 s4_1 s4_2) [1, 1, 1, 1] [2, 3, 4, 9] e (A_3 (s3c s4_0 s4_1 s4_2 some)) := fun x y => Eq.trans (b := (A_3 (s3c s4_0 s4_1 s4_2 fun r => some (e r))).G x y) (by kernel_rfl) (by simp only [A_3, s3c, bif_bind, sum_bind, oa, os, on, ofs])
theorem s4_0_ev : EvA (env g11 s0 s1 s2 s3 s4_0 s4_1 s4_2) [4, 1, 0, 1, 1, 1, 1, 1] [2, 3, 4, 9, 10, 11] e (A_4_0 (s4_0c g11 s4_0 some)) := fun x y => Eq.trans (b := (A_4_0 (s4_0c g11 s4_0 fun r => some (e r))).G x y) (by kernel_rfl) (by simp only [A_4_0, s4_0c, bif_bind, sum_bind, oa, os, on, ofs])
theorem s4_1_ev : EvA (env g11 s0 s1 s2 s3 s4_0 s4_1 s4_2) [4, 1, 0, 1, 1, 1, 1, 1] [2, 3, 4, 9, 10, 11] e (A_4_1 (s4_1c g11 s4_1 some)) := fun x y => Eq.trans (b := (A_4_1 (s4_1c g11 s4_1 fun r => some (e r))).G x y) (by kernel_rfl) (by simp only [A_4_1, s4_1c, bif_bind, sum_bind, oa, os, on, ofs])
theorem s4_2_ev : EvA (env g11 s0 s1 s2 s3 s4_0 s4_1 s4_2) [4, 1, 0, 1, 1, 1, 1, 1] [2, 3, 4, 9, 10, 11] e (A_4_2 (s4_2c g11 s4_2 some)) := fun x y => Eq.trans (b := (A_4_2 (s4_2c g11 s4_2 fun r => some (e r))).G x y) (by kernel_rfl) (by simp only [A_4_2, s4_2c, bif_bind, sum_bind, oa, os, on, ofs])
end
mutual
def s0 : Nat → S0 R
  | 0, _, _, _, _, _, _, _, _ => none
  | k + 1, x0, x1, x2, x3, x4, x5, x6, x7 => s0c (s1 k) some x0 x1 x2 x3 x4 x5 x6 x7
def s1 : Nat → S1 R
  | 0, _, _, _, _, _, _ => none
  | k + 1, x0, x1, x2, x3, x4, x5 => s1c (s2 k) some x0 x1 x2 x3 x4 x5
def s2 : Nat → S2 R
  | 0, _, _, _, _, _, _, _ => none
  | k + 1, x0, x1, x2, x3, x4, x5, x6 => s2c (s3 k) some x0 x1 x2 x3 x4 x5 x6
def s3 : Nat → S3 R
  | 0, _, _, _, _, _, _ => none
  | k + 1, x0, x1, x2, x3, x4, x5 => s3c (s4_0 k) (s4_1 k) (s4_2 k) some x0 x1 x2 x3 x4 x5
def s4_0 : Nat → transomref11_Rows_4.S0 R
  | 0, _, _, _, _, _, _, _, _ => none
  | k + 1, x0, x1, x2, x3, x4, x5, x6, x7 => s4_0c (transomref11_Row.f k) (s4_0 k) some x0 x1 x2 x3 x4 x5 x6 x7
def s4_1 : Nat → transomref11_Rows_4.S1 R
  | 0, _, _, _, _, _, _, _, _, _ => none
  | k + 1, x0, x1, x2, x3, x4, x5, x6, x7, x8 => s4_1c (transomref11_Row.f k) (s4_1 k) some x0 x1 x2 x3 x4 x5 x6 x7 x8
def s4_2 : Nat → transomref11_Rows_4.S2 R
  | 0, _, _, _, _, _, _, _, _ => none
  | k + 1, x0, x1, x2, x3, x4, x5, x6, x7 => s4_2c (transomref11_Row.f k) (s4_2 k) some x0 x1 x2 x3 x4 x5 x6 x7
end
def f (k : Nat) (a0 : ByteArray) (a1 : Int) (a2 : List D_api_Col) (a3 : D_api_Change) (a4 : List (List D_api_Value)) : Option R := c (s0 k) some a0 a1 a2 a3 a4
noncomputable abbrev E (k : Nat) : FEnv := env (transomref11_Row.f k) (s0 k) (s1 k) (s2 k) (s3 k) (s4_0 k) (s4_1 k) (s4_2 k)
theorem hE (k : Nat) : EnvOK (E k).toEnv := ctsOK (Lc (transomref11_Row.ok k) L0)
theorem segs_ok : ∀ k, ∀ s ∈ [sg0 (s0 k), sg1 (s1 k), sg2 (s2 k), sg3 (s3 k), sg4 (s4_0 k) (s4_1 k) (s4_2 k)], SegB prog f15 0 s
  | 0 => (Lc (sg_none (Lc (fun _ _ => rfl) L0)) (Lc (sg_none (Lc (fun _ _ => rfl) L0)) (Lc (sg_none (Lc (fun _ _ => rfl) L0)) (Lc (sg_none (Lc (fun _ _ => rfl) L0)) (Lc (sg_none (Lc (fun _ _ => rfl) (Lc (fun _ _ => rfl) (Lc (fun _ _ => rfl) L0)))) L0)))))
  | k + 1 => (Lc (sg_ok (hE k) (segs_ok k) (Lc s0_ev L0)) (Lc (sg_ok (hE k) (segs_ok k) (Lc s1_ev L0)) (Lc (sg_ok (hE k) (segs_ok k) (Lc s2_ev L0)) (Lc (sg_ok (hE k) (segs_ok k) (Lc s3_ev L0)) (Lc (sg_ok (hE k) (segs_ok k) (Lc s4_0_ev (Lc s4_1_ev (Lc s4_2_ev L0)))) L0)))))
theorem ok (k : Nat) : CtOK prog 15 (ct (f k)) := fn_ok func15 rfl (by decide) (hE k) (segs_ok k) (Lc ev L0)
end transomref11_Rows
namespace transomlaw11_all
def e (r : Bool) : Res := ⟨.v (.one (.d .bool r)), []⟩
abbrev T (δ : Type) : Type := (List (List (List D_api_Value))) → (List (List (List D_api_Value))) → Option δ
abbrev A {δ : Type} (g : T δ) : Arm δ := ⟨[.d (.sl (.sl (.sl T_api_Value))), .d (.sl (.sl (.sl T_api_Value)))], [], fun x y => g x.1 x.2.1⟩
abbrev G : Type := T Bool
def ct (g : G) : Ct := mkCt 0 [] [A g] e
abbrev S0 (δ : Type) : Type := (List (List (List D_api_Value))) → (List (List (List D_api_Value))) → Int → Option δ
abbrev A_0 {δ : Type} (s : S0 δ) : Arm δ := ⟨[.d (.sl (.sl (.sl T_api_Value))), .d (.sl (.sl (.sl T_api_Value))), .d (.int .i64)], [], fun x y => s x.1 x.2.1 x.2.2.1⟩
def sg0 (s : S0 Bool) : Seg := mkSg [4, 1, 0, 1, 1] [] [0, 1, 5] [A_0 s] e
section
variable {β : Type} (g12 : transomref06_All.G) (s0 : S0 Bool)
noncomputable abbrev env : FEnv := mkEnv prog f16 [(12, transomref06_All.ct g12)] 0 [] [sg0 s0]
def c (ret : Bool → Option β) (a0 : List (List (List D_api_Value))) (a1 : List (List (List D_api_Value))) : Option β := (bif ((a0.length : Int) != (a1.length : Int)) then (ret (false)) else ((s0 a0 a1 (0 : Int)).bind ret))
def s0c (ret : Bool → Option β) (x0 : List (List (List D_api_Value))) (x1 : List (List (List D_api_Value))) (x2 : Int) : Option β := (bif (decide (x2 < (x0.length : Int))) then (bif ((decide ((0 : Int) ≤ x2)) && (decide (x2 < (x0.length : Int)))) then (bif ((decide ((0 : Int) ≤ x2)) && (decide (x2 < (x1.length : Int)))) then ((g12 (elem (Ty.sl (Ty.sl T_api_Value)) x0 x2) (elem (Ty.sl (Ty.sl T_api_Value)) x1 x2)).bind fun r0 => (bif (!r0) then (ret (false)) else ((s0 x0 x1 (IntKind.wrap .i64 (x2 + (1 : Int)))).bind ret))) else none) else none) else (ret (true)))
variable {g12} {s0}
theorem ev : EvA (env g12 s0) [] [0, 1] e (A (c s0 some)) := fun x y => Eq.trans (b := (A (c s0 fun r => some (e r))).G x y) (by kernel_rfl) (by simp only [A, c, bif_bind, sum_bind, oa, os, on, ofs])
theorem s0_ev : EvA (env g12 s0) [4, 1, 0, 1, 1] [0, 1, 5] e (A_0 (s0c g12 s0 some)) := fun x y => Eq.trans (b := (A_0 (s0c g12 s0 fun r => some (e r))).G x y) (by kernel_rfl) (by simp only [A_0, s0c, bif_bind, sum_bind, oa, os, on, ofs])
end
def s0 : Nat → S0 Bool
  | 0, _, _, _ => none
  | k + 1, x0, x1, x2 => s0c (transomref06_All.f k) (s0 k) some x0 x1 x2
def f (k : Nat) (a0 : List (List (List D_api_Value))) (a1 : List (List (List D_api_Value))) : Option Bool := c (s0 k) some a0 a1
noncomputable abbrev E (k : Nat) : FEnv := env (transomref06_All.f k) (s0 k)
theorem hE (k : Nat) : EnvOK (E k).toEnv := ctsOK (Lc (transomref06_All.ok k) L0)
theorem segs_ok : ∀ k, ∀ s ∈ [sg0 (s0 k)], SegB prog f16 0 s
  | 0 => (Lc (sg_none (Lc (fun _ _ => rfl) L0)) L0)
  | k + 1 => (Lc (sg_ok (hE k) (segs_ok k) (Lc s0_ev L0)) L0)
theorem ok (k : Nat) : CtOK prog 16 (ct (f k)) := fn_ok func16 rfl (by decide) (hE k) (segs_ok k) (Lc ev L0)
end transomlaw11_all
end Go.Proofs.YtijjlpgcpdapnaaGreatDoor.Aev
