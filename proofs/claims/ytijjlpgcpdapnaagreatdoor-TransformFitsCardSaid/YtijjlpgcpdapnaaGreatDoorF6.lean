import Derived.Test.YtijjlpgcpdapnaaGreatDoorTys
import Derived.Test.YtijjlpgcpdapnaaGreatDoorProg
import Derived.Laws.Externs
import Derived.Lib.Bytealg
import Derived.Test.YtijjlpgcpdapnaaGreatDoorF0
import Derived.Test.YtijjlpgcpdapnaaGreatDoorF2
import Derived.Test.YtijjlpgcpdapnaaGreatDoorF5
/- By a program of this session (AEV): functions of the program as plain functions, and that the machine does what they say. -/
namespace Go.Proofs.YtijjlpgcpdapnaaGreatDoor.Aev
set_option linter.unusedVariables false
set_option linter.unusedSimpArgs false
set_option maxRecDepth 100000
set_option maxHeartbeats 4000000
open Go Go.Proofs.Tryz
namespace transform_Rows
abbrev R : Type := (List (List (List D_api_Value))) × Int × Int
def e (r : R) : Res := ⟨.tup [(.one (.d (.sl (.sl (.sl T_api_Value))) r.1)), (.one (.d (.int .i64) r.2.1)), (.one (.d (.int .i64) r.2.2))], []⟩
abbrev T (δ : Type) : Type := ByteArray → Int → (List D_api_Col) → D_api_Change → (List (List D_api_Value)) → Option δ
abbrev A {δ : Type} (g : T δ) : Arm δ := ⟨[.s T_api_Table, .s T_api_Change, .d (.sl (.sl T_api_Value))], [], fun x y => g x.1.1.1 x.1.1.2.1 x.1.1.2.2.1 x.2.1.1 x.2.2.1⟩
abbrev G : Type := T R
def ct (g : G) : Ct := mkCt 0 [] [A g] e
abbrev S0 (δ : Type) : Type := (List (List D_api_Value)) → Int → Bool → ByteArray → Int → (List D_api_Col) → D_api_Change → Option δ
abbrev A_0 {δ : Type} (s : S0 δ) : Arm δ := ⟨[.d (.sl (.sl T_api_Value)), .k (.ptr 0 0), .k (.ptr 1 0), .d (.int .i64), .d .bool], [.box [.g T_api_Table], .box [.g T_api_Change]], fun x y => s x.1 x.2.2.2.1 x.2.2.2.2.1 y.1.1.1 y.1.1.2.1 y.1.1.2.2.1 y.2.1.1⟩
abbrev S1 (δ : Type) : Type := (List (List D_api_Value)) → Int → ByteArray → Int → (List D_api_Col) → D_api_Change → Option δ
abbrev A_1 {δ : Type} (s : S1 δ) : Arm δ := ⟨[.d (.sl (.sl T_api_Value)), .k (.ptr 0 0), .k (.ptr 1 0), .d (.int .i64)], [.box [.g T_api_Table], .box [.g T_api_Change]], fun x y => s x.1 x.2.2.2.1 y.1.1.1 y.1.1.2.1 y.1.1.2.2.1 y.2.1.1⟩
abbrev transform_Rows_2.S0 (δ : Type) : Type := (List (List D_api_Value)) → Int → Int → ByteArray → Int → (List D_api_Col) → D_api_Change → (List (List D_api_Value)) → Option δ
abbrev A_2_0 {δ : Type} (s : transform_Rows_2.S0 δ) : Arm δ := ⟨[.k (.ptr 0 0), .k (.ptr 1 0), .k (.slb 2 1), .d (.sl (.sl T_api_Value)), .d (.int .i64), .d (.int .i64)], [.box [.g T_api_Table], .box [.g T_api_Change], .box [.c (.own 3)], .own (.sl T_api_Value) false], fun x y => s x.2.2.2.1 x.2.2.2.2.1 x.2.2.2.2.2.1 y.1.1.1 y.1.1.2.1 y.1.1.2.2.1 y.2.1.1 y.2.2.2.1⟩
abbrev transform_Rows_2.S1 (δ : Type) : Type := (List (List D_api_Value)) → Int → Int → ByteArray → Int → (List D_api_Col) → D_api_Change → (List (List D_api_Value)) → (List (List D_api_Value)) → Option δ
abbrev A_2_1 {δ : Type} (s : transform_Rows_2.S1 δ) : Arm δ := ⟨[.k (.ptr 0 0), .k (.ptr 1 0), .k (.slb 2 2), .d (.sl (.sl T_api_Value)), .d (.int .i64), .d (.int .i64)], [.box [.g T_api_Table], .box [.g T_api_Change], .box [.c (.own 3), .c (.own 4)], .own (.sl T_api_Value) false, .own (.sl T_api_Value) false], fun x y => s x.2.2.2.1 x.2.2.2.2.1 x.2.2.2.2.2.1 y.1.1.1 y.1.1.2.1 y.1.1.2.2.1 y.2.1.1 y.2.2.2.1 y.2.2.2.2.1⟩
abbrev transform_Rows_2.S2 (δ : Type) : Type := (List (List D_api_Value)) → Int → Int → ByteArray → Int → (List D_api_Col) → D_api_Change → (List (List (List D_api_Value))) → Option δ
abbrev A_2_2 {δ : Type} (s : transform_Rows_2.S2 δ) : Arm δ := ⟨[.k (.ptr 0 0), .k (.ptr 1 0), .k (.own 2), .d (.sl (.sl T_api_Value)), .d (.int .i64), .d (.int .i64)], [.box [.g T_api_Table], .box [.g T_api_Change], .own (.sl (.sl T_api_Value)) true], fun x y => s x.2.2.2.1 x.2.2.2.2.1 x.2.2.2.2.2.1 y.1.1.1 y.1.1.2.1 y.1.1.2.2.1 y.2.1.1 y.2.2.1⟩
def sg0 (s : S0 R) : Seg := mkSg [1, 0, 1, 1] [] [2, 3, 4, 9, 24] [A_0 s] e
def sg1 (s : S1 R) : Seg := mkSg [1, 1, 1] [] [2, 3, 4, 9] [A_1 s] e
def sg2 (s0 : transform_Rows_2.S0 R) (s1 : transform_Rows_2.S1 R) (s2 : transform_Rows_2.S2 R) : Seg := mkSg [4, 1, 0, 1, 1, 1, 1] [.cellOwn 10 0 (.sl T_api_Value), .cellOwn 10 1 (.sl T_api_Value)] [3, 4, 10, 27, 28, 29] [A_2_0 s0, A_2_1 s1, A_2_2 s2] e
section
variable {β : Type} (g10 : transform_Row.G) (g38 : transform_width.G) (s0 : S0 R) (s1 : S1 R) (s2_0 : transform_Rows_2.S0 R) (s2_1 : transform_Rows_2.S1 R) (s2_2 : transform_Rows_2.S2 R)
noncomputable abbrev env : FEnv := mkEnv prog f14 [(10, transform_Row.ct g10), (38, transform_width.ct g38)] 0 [] [sg0 s0, sg1 s1, sg2 s2_0 s2_1 s2_2]
def c (ret : R → Option β) (a0 : ByteArray) (a1 : Int) (a2 : List D_api_Col) (a3 : D_api_Change) (a4 : List (List D_api_Value)) : Option β := ((g38 a3).bind fun r0 => (bif (r0 == (0 : Int)) then ((s0 a4 r0 ((a4.length : Int) == (0 : Int)) a0 a1 a2 a3).bind ret) else ((s0 a4 r0 false a0 a1 a2 a3).bind ret)))
def s0c (ret : R → Option β) (x0 : List (List D_api_Value)) (x1 : Int) (x2 : Bool) (x3 : ByteArray) (x4 : Int) (x5 : List D_api_Col) (x6 : D_api_Change) : Option β := (bif x2 then (ret ([], (0 : Int), (1 : Int))) else ((s1 x0 x1 x3 x4 x5 x6).bind ret))
def s1c (ret : R → Option β) (x0 : List (List D_api_Value)) (x1 : Int) (x2 : ByteArray) (x3 : Int) (x4 : List D_api_Col) (x5 : D_api_Change) : Option β := (bif (((decide ((0 : Int) ≤ x1)) && (decide (x1 ≤ x1))) && (decide ((x1 * (24 : Int)) ≤ (35184372088832 : Int)))) then (bif ((decide (x1 = (1 : Int))) && (decide (x1 = (1 : Int)))) then ((s2_0 x0 (x0.length : Int) (0 : Int) x2 x3 x4 x5 []).bind ret) else (bif ((decide (x1 = (2 : Int))) && (decide (x1 = (2 : Int)))) then ((s2_1 x0 (x0.length : Int) (0 : Int) x2 x3 x4 x5 [] []).bind ret) else ((s2_2 x0 (x0.length : Int) (0 : Int) x2 x3 x4 x5 (List.replicate (Int.toNat x1) [])).bind ret))) else none)
def s2_0c (ret : R → Option β) (x0 : List (List D_api_Value)) (x1 x2 : Int) (x3 : ByteArray) (x4 : Int) (x5 : List D_api_Col) (x6 : D_api_Change) (x7 : List (List D_api_Value)) : Option β := (bif (decide (x2 < x1)) then (bif ((decide ((0 : Int) ≤ x2)) && (decide (x2 < (x0.length : Int)))) then ((g10 x3 x4 x5 x6 (elem (Ty.sl T_api_Value) x0 x2)).bind fun r0 => (bif (r0.2 != (0 : Int)) then (ret ([], x2, r0.2)) else (bif (true && (decide ((0 : Int) < (r0.1.length : Int)))) then (bif (decide (((x7.length + (1 : Nat)) * (24 : Nat)) ≤ (35184372088832 : Nat))) then ((s2_0 x0 x1 (IntKind.wrap .i64 (x2 + (1 : Int))) x3 x4 x5 x6 (x7 ++ [(elem (Ty.sl T_api_Value) r0.1 (0 : Int))])).bind ret) else none) else none))) else none) else (ret ([x7], (0 : Int), (0 : Int))))
def s2_1c (ret : R → Option β) (x0 : List (List D_api_Value)) (x1 x2 : Int) (x3 : ByteArray) (x4 : Int) (x5 : List D_api_Col) (x6 : D_api_Change) (x7 x8 : List (List D_api_Value)) : Option β := (bif (decide (x2 < x1)) then (bif ((decide ((0 : Int) ≤ x2)) && (decide (x2 < (x0.length : Int)))) then ((g10 x3 x4 x5 x6 (elem (Ty.sl T_api_Value) x0 x2)).bind fun r0 => (bif (r0.2 != (0 : Int)) then (ret ([], x2, r0.2)) else (bif (true && (decide ((0 : Int) < (r0.1.length : Int)))) then (bif (decide (((x7.length + (1 : Nat)) * (24 : Nat)) ≤ (35184372088832 : Nat))) then (bif (true && (decide ((1 : Int) < (r0.1.length : Int)))) then (bif (decide (((x8.length + (1 : Nat)) * (24 : Nat)) ≤ (35184372088832 : Nat))) then ((s2_1 x0 x1 (IntKind.wrap .i64 (x2 + (1 : Int))) x3 x4 x5 x6 (x7 ++ [(elem (Ty.sl T_api_Value) r0.1 (0 : Int))]) (x8 ++ [(elem (Ty.sl T_api_Value) r0.1 (1 : Int))])).bind ret) else none) else none) else none) else none))) else none) else (ret ([x7, x8], (0 : Int), (0 : Int))))
def s2_2c (ret : R → Option β) (x0 : List (List D_api_Value)) (x1 x2 : Int) (x3 : ByteArray) (x4 : Int) (x5 : List D_api_Col) (x6 : D_api_Change) (x7 : List (List (List D_api_Value))) : Option β := (bif (decide (x2 < x1)) then (bif ((decide ((0 : Int) ≤ x2)) && (decide (x2 < (x0.length : Int)))) then ((g10 x3 x4 x5 x6 (elem (Ty.sl T_api_Value) x0 x2)).bind fun r0 => (bif (r0.2 != (0 : Int)) then (ret ([], x2, r0.2)) else (bif (decide ((0 : Int) < (x7.length : Int))) then (bif (true && (decide ((0 : Int) < (x7.length : Int)))) then (bif (true && (decide ((0 : Int) < (r0.1.length : Int)))) then none else none) else none) else ((s2_2 x0 x1 (IntKind.wrap .i64 (x2 + (1 : Int))) x3 x4 x5 x6 x7).bind ret)))) else none) else (ret (x7, (0 : Int), (0 : Int))))
variable {g10} {g38} {s0} {s1} {s2_0} {s2_1} {s2_2}
theorem ev : EvA (env g10 g38 s0 s1 s2_0 s2_1 s2_2) [] [0, 1, 2] e (A (c g38 s0 some)) := fun x y => Eq.trans (b := (A (c g38 s0 fun r => some (e r))).G x y) (by kernel_rfl) (by simp only [A, c, bo, so, oa, os, on, ofs])
theorem s0_ev : EvA (env g10 g38 s0 s1 s2_0 s2_1 s2_2) [1, 0, 1, 1] [2, 3, 4, 9, 24] e (A_0 (s0c s1 some)) := fun x y => Eq.trans (b := (A_0 (s0c s1 fun r => some (e r))).G x y) (by kernel_rfl) (by simp only [A_0, s0c, bo, so, oa, os, on, ofs])
theorem s1_ev : EvA (env g10 g38 s0 s1 s2_0 s2_1 s2_2) [1, 1, 1] [2, 3, 4, 9] e (A_1 (s1c s2_0 s2_1 s2_2 some)) := fun x y => Eq.trans (b := (A_1 (s1c s2_0 s2_1 s2_2 fun r => some (e r))).G x y) (by kernel_rfl) (by simp only [A_1, s1c, bo, so, oa, os, on, ofs])
theorem s2_0_ev : EvA (env g10 g38 s0 s1 s2_0 s2_1 s2_2) [4, 1, 0, 1, 1, 1, 1] [3, 4, 10, 27, 28, 29] e (A_2_0 (s2_0c g10 s2_0 some)) := fun x y => Eq.trans (b := (A_2_0 (s2_0c g10 s2_0 fun r => some (e r))).G x y) (by kernel_rfl) (by simp only [A_2_0, s2_0c, bo, so, oa, os, on, ofs])
theorem s2_1_ev : EvA (env g10 g38 s0 s1 s2_0 s2_1 s2_2) [4, 1, 0, 1, 1, 1, 1] [3, 4, 10, 27, 28, 29] e (A_2_1 (s2_1c g10 s2_1 some)) := fun x y => Eq.trans (b := (A_2_1 (s2_1c g10 s2_1 fun r => some (e r))).G x y) (by kernel_rfl) (by simp only [A_2_1, s2_1c, bo, so, oa, os, on, ofs])
theorem s2_2_ev : EvA (env g10 g38 s0 s1 s2_0 s2_1 s2_2) [4, 1, 0, 1, 1, 1, 1] [3, 4, 10, 27, 28, 29] e (A_2_2 (s2_2c g10 s2_2 some)) := fun x y => Eq.trans (b := (A_2_2 (s2_2c g10 s2_2 fun r => some (e r))).G x y) (by kernel_rfl) (by simp only [A_2_2, s2_2c, bo, so, oa, os, on, ofs])
end
mutual
def s0 : Nat → S0 R
 | 0, _, _, _, _, _, _, _ => none
 | k + 1, x0, x1, x2, x3, x4, x5, x6 => s0c (s1 k) some x0 x1 x2 x3 x4 x5 x6
def s1 : Nat → S1 R
 | 0, _, _, _, _, _, _ => none
 | k + 1, x0, x1, x2, x3, x4, x5 => s1c (s2_0 k) (s2_1 k) (s2_2 k) some x0 x1 x2 x3 x4 x5
def s2_0 : Nat → transform_Rows_2.S0 R
 | 0, _, _, _, _, _, _, _, _ => none
 | k + 1, x0, x1, x2, x3, x4, x5, x6, x7 => s2_0c (transform_Row.f k) (s2_0 k) some x0 x1 x2 x3 x4 x5 x6 x7
def s2_1 : Nat → transform_Rows_2.S1 R
 | 0, _, _, _, _, _, _, _, _, _ => none
 | k + 1, x0, x1, x2, x3, x4, x5, x6, x7, x8 => s2_1c (transform_Row.f k) (s2_1 k) some x0 x1 x2 x3 x4 x5 x6 x7 x8
def s2_2 : Nat → transform_Rows_2.S2 R
 | 0, _, _, _, _, _, _, _, _ => none
 | k + 1, x0, x1, x2, x3, x4, x5, x6, x7 => s2_2c (transform_Row.f k) (s2_2 k) some x0 x1 x2 x3 x4 x5 x6 x7
end
def f (k : Nat) (a0 : ByteArray) (a1 : Int) (a2 : List D_api_Col) (a3 : D_api_Change) (a4 : List (List D_api_Value)) : Option R := c (transform_width.f k) (s0 k) some a0 a1 a2 a3 a4
noncomputable abbrev E (k : Nat) : FEnv := env (transform_Row.f k) (transform_width.f k) (s0 k) (s1 k) (s2_0 k) (s2_1 k) (s2_2 k)
theorem hE (k : Nat) : EnvOK (E k).toEnv := ctsOK (Lc (transform_Row.ok k) (Lc (transform_width.ok k) L0))
theorem sk : ∀ k, ∀ s ∈ [sg0 (s0 k), sg1 (s1 k), sg2 (s2_0 k) (s2_1 k) (s2_2 k)], SegB prog f14 0 s
 | 0 => (Lc (sn (Lc (fun _ _ => rfl) L0)) (Lc (sn (Lc (fun _ _ => rfl) L0)) (Lc (sn (Lc (fun _ _ => rfl) (Lc (fun _ _ => rfl) (Lc (fun _ _ => rfl) L0)))) L0)))
 | k + 1 => (Lc (sg_ok (hE k) (sk k) (Lc s0_ev L0)) (Lc (sg_ok (hE k) (sk k) (Lc s1_ev L0)) (Lc (sg_ok (hE k) (sk k) (Lc s2_0_ev (Lc s2_1_ev (Lc s2_2_ev L0)))) L0)))
theorem ok (k : Nat) : CtOK prog 14 (ct (f k)) := fn_ok func14 rfl (by decide) (hE k) (sk k) (Lc ev L0)
end transform_Rows
namespace transomlaw09_Plain
abbrev R : Type := ByteArray × Int × (List D_api_Col)
def e (r : R) : Res := ⟨.v (.agg [(.d .str r.1), (.d (.int .i64) r.2.1), (.own 0)]), [some (.own T_api_Col true r.2.2)]⟩
abbrev T (δ : Type) : Type := Option δ
abbrev A {δ : Type} (g : T δ) : Arm δ := ⟨[], [], fun x y => g⟩
abbrev G : Type := T R
def ct (g : G) : Ct := mkCt 0 [] [A g] e
section
variable {β : Type} 
noncomputable abbrev env : FEnv := mkEnv prog f24 [] 0 [0] []
def c (ret : R → Option β)  : Option β := (ret ((ByteArray.mk (List.toArray [116])), (1 : Int), [((ByteArray.mk (List.toArray [107])), ((2 : Int), (false, (((0 : Int), ((0 : Int), ((0 : Int), ((ByteArray.mk (List.toArray [])), ())))), ())))), ((ByteArray.mk (List.toArray [118])), ((5 : Int), (true, (((0 : Int), ((0 : Int), ((0 : Int), ((ByteArray.mk (List.toArray [])), ())))), ()))))]))
theorem ev : EvA (env) [] [] e (A (c some)) := fun x y => Eq.trans (b := (A (c fun r => some (e r))).G x y) (by kernel_rfl) (by simp only [A, c, bo, so, oa, os, on, ofs])
end
def f (k : Nat)  : Option R := c  some 
noncomputable abbrev E (k : Nat) : FEnv := env  
theorem hE (k : Nat) : EnvOK (E k).toEnv := ctsOK L0
theorem ok (k : Nat) : CtOK prog 24 (ct (f k)) := fn_ok func24 rfl (by decide) (hE k) L0 (Lc ev L0)
end transomlaw09_Plain
namespace transomlaw11_awake
def e (r : Bool) : Res := ⟨.v (.one (.d .bool r)), []⟩
abbrev T (δ : Type) : Type := Option δ
abbrev A {δ : Type} (g : T δ) : Arm δ := ⟨[], [], fun x y => g⟩
abbrev G : Type := T Bool
def ct (g : G) : Ct := mkCt 0 [] [A g] e
abbrev S0 (δ : Type) : Type := Int → (List (List D_api_Value)) → Int → (List (List (List D_api_Value))) → Int → Int → Int → Bool → Option δ
abbrev A_0 {δ : Type} (s : S0 δ) : Arm δ := ⟨[.d (.int .i64), .d (.sl (.sl T_api_Value)), .d (.int .i64), .d (.sl (.sl (.sl T_api_Value))), .d (.int .i64), .d (.int .i64), .d (.int .i64), .d .bool], [], fun x y => s x.1 x.2.1 x.2.2.1 x.2.2.2.1 x.2.2.2.2.1 x.2.2.2.2.2.1 x.2.2.2.2.2.2.1 x.2.2.2.2.2.2.2.1⟩
abbrev S1 (δ : Type) : Type := Int → (List (List D_api_Value)) → Int → (List (List (List D_api_Value))) → Int → Int → Int → Option δ
abbrev A_1 {δ : Type} (s : S1 δ) : Arm δ := ⟨[.d (.int .i64), .d (.sl (.sl T_api_Value)), .d (.int .i64), .d (.sl (.sl (.sl T_api_Value))), .d (.int .i64), .d (.int .i64), .d (.int .i64)], [], fun x y => s x.1 x.2.1 x.2.2.1 x.2.2.2.1 x.2.2.2.2.1 x.2.2.2.2.2.1 x.2.2.2.2.2.2.1⟩
def sg0 (s : S0 Bool) : Seg := mkSg [1, 0, 1, 1, 1, 1, 1, 1, 1] [] [4, 5, 6, 7, 8, 9, 11, 55] [A_0 s] e
def sg1 (s : S1 Bool) : Seg := mkSg [1, 1, 1, 1, 1, 1, 1, 1] [] [4, 5, 6, 7, 8, 9, 11] [A_1 s] e
section
variable {β : Type} (g10 : transform_Row.G) (g14 : transform_Rows.G) (g24 : transomlaw09_Plain.G) (s0 : S0 Bool) (s1 : S1 Bool)
noncomputable abbrev env : FEnv := mkEnv prog f9 [(10, transform_Row.ct g10), (14, transform_Rows.ct g14), (24, transomlaw09_Plain.ct g24)] 0 [] [sg0 s0, sg1 s1]
def c (ret : Bool → Option β)  : Option β := (g24.bind fun r0 => ((g10 r0.1 r0.2.1 r0.2.2 ((4 : Int), ((ByteArray.mk (List.toArray [116])), ((ByteArray.mk (List.toArray [])), ((ByteArray.mk (List.toArray [])), ((ByteArray.mk (List.toArray [])), ((ByteArray.mk (List.toArray [118])), ((2 : Int), ([], (((ByteArray.mk (List.toArray [])), ((0 : Int), (false, (((0 : Int), ((0 : Int), ((0 : Int), ((ByteArray.mk (List.toArray [])), ())))), ())))), (((ByteArray.mk (List.toArray [])), ((0 : Int), ([], ()))), ())))))))))) [((2 : Int), ((1 : Int), ((0 : Int), ((ByteArray.mk (List.toArray [])), ())))), ((5 : Int), ((0 : Int), ((0 : Int), ((ByteArray.mk (List.toArray [120])), ()))))]).bind fun r1 => ((g10 r0.1 r0.2.1 r0.2.2 ((3 : Int), ((ByteArray.mk (List.toArray [116])), ((ByteArray.mk (List.toArray [])), ((ByteArray.mk (List.toArray [])), ((ByteArray.mk (List.toArray [])), ((ByteArray.mk (List.toArray [118])), ((0 : Int), ([], (((ByteArray.mk (List.toArray [])), ((0 : Int), (false, (((0 : Int), ((0 : Int), ((0 : Int), ((ByteArray.mk (List.toArray [])), ())))), ())))), (((ByteArray.mk (List.toArray [])), ((0 : Int), ([], ()))), ())))))))))) [((2 : Int), ((1 : Int), ((0 : Int), ((ByteArray.mk (List.toArray [])), ())))), ((5 : Int), ((0 : Int), ((0 : Int), ((ByteArray.mk (List.toArray [120])), ()))))]).bind fun r2 => ((g14 r0.1 r0.2.1 r0.2.2 ((5 : Int), ((ByteArray.mk (List.toArray [116])), ((ByteArray.mk (List.toArray [])), ((ByteArray.mk (List.toArray [])), ((ByteArray.mk (List.toArray [])), ((ByteArray.mk (List.toArray [])), ((0 : Int), ([(ByteArray.mk (List.toArray [118]))], (((ByteArray.mk (List.toArray [])), ((0 : Int), (false, (((0 : Int), ((0 : Int), ((0 : Int), ((ByteArray.mk (List.toArray [])), ())))), ())))), (((ByteArray.mk (List.toArray [])), ((0 : Int), ([], ()))), ())))))))))) [[((2 : Int), ((1 : Int), ((0 : Int), ((ByteArray.mk (List.toArray [])), ())))), ((5 : Int), ((0 : Int), ((0 : Int), ((ByteArray.mk (List.toArray [120])), ()))))], [((2 : Int), ((1 : Int), ((0 : Int), ((ByteArray.mk (List.toArray [])), ())))), ((5 : Int), ((0 : Int), ((0 : Int), ((ByteArray.mk (List.toArray [120])), ()))))]]).bind fun r3 => ((g10 r0.1 r0.2.1 r0.2.2 ((3 : Int), ((ByteArray.mk (List.toArray [117])), ((ByteArray.mk (List.toArray [])), ((ByteArray.mk (List.toArray [])), ((ByteArray.mk (List.toArray [])), ((ByteArray.mk (List.toArray [118])), ((0 : Int), ([], (((ByteArray.mk (List.toArray [])), ((0 : Int), (false, (((0 : Int), ((0 : Int), ((0 : Int), ((ByteArray.mk (List.toArray [])), ())))), ())))), (((ByteArray.mk (List.toArray [])), ((0 : Int), ([], ()))), ())))))))))) [((2 : Int), ((1 : Int), ((0 : Int), ((ByteArray.mk (List.toArray [])), ())))), ((5 : Int), ((0 : Int), ((0 : Int), ((ByteArray.mk (List.toArray [120])), ()))))]).bind fun r4 => (bif ((r2.1.length : Int) != (1 : Int)) then ((s0 r1.2 r2.1 r2.2 r3.1 r3.2.1 r3.2.2 r4.2 true).bind ret) else ((s0 r1.2 r2.1 r2.2 r3.1 r3.2.1 r3.2.2 r4.2 ((r3.1.length : Int) != (2 : Int))).bind ret)))))))
def s0c (ret : Bool → Option β) (x0 : Int) (x1 : List (List D_api_Value)) (x2 : Int) (x3 : List (List (List D_api_Value))) (x4 x5 x6 : Int) (x7 : Bool) : Option β := (bif x7 then (ret (false)) else ((s1 x0 x1 x2 x3 x4 x5 x6).bind ret))
def s1c (ret : Bool → Option β) (x0 : Int) (x1 : List (List D_api_Value)) (x2 : Int) (x3 : List (List (List D_api_Value))) (x4 x5 x6 : Int) : Option β := (bif (x0 == (7 : Int)) then (bif (true && (decide ((0 : Int) < (x1.length : Int)))) then (bif (((List.length (elem (Ty.sl T_api_Value) x1 (0 : Int))) : Int) == (1 : Int)) then (bif (x2 == (0 : Int)) then (bif (true && (decide ((0 : Int) < (x3.length : Int)))) then (bif (((List.length (elem (Ty.sl (Ty.sl T_api_Value)) x3 (0 : Int))) : Int) == (2 : Int)) then (bif (true && (decide ((1 : Int) < (x3.length : Int)))) then (bif (((List.length (elem (Ty.sl (Ty.sl T_api_Value)) x3 (1 : Int))) : Int) == (2 : Int)) then (bif (x4 == (0 : Int)) then (bif (x5 == (0 : Int)) then (ret ((x6 == (1 : Int)))) else (ret (false))) else (ret (false))) else (ret (false))) else none) else (ret (false))) else none) else (ret (false))) else (ret (false))) else none) else (ret (false)))
variable {g10} {g14} {g24} {s0} {s1}
theorem ev : EvA (env g10 g14 g24 s0 s1) [] [] e (A (c g10 g14 g24 s0 some)) := fun x y => Eq.trans (b := (A (c g10 g14 g24 s0 fun r => some (e r))).G x y) (by kernel_rfl) (by simp only [A, c, bo, so, oa, os, on, ofs])
theorem s0_ev : EvA (env g10 g14 g24 s0 s1) [1, 0, 1, 1, 1, 1, 1, 1, 1] [4, 5, 6, 7, 8, 9, 11, 55] e (A_0 (s0c s1 some)) := fun x y => Eq.trans (b := (A_0 (s0c s1 fun r => some (e r))).G x y) (by kernel_rfl) (by simp only [A_0, s0c, bo, so, oa, os, on, ofs])
theorem s1_ev : EvA (env g10 g14 g24 s0 s1) [1, 1, 1, 1, 1, 1, 1, 1] [4, 5, 6, 7, 8, 9, 11] e (A_1 (s1c some)) := fun x y => Eq.trans (b := (A_1 (s1c fun r => some (e r))).G x y) (by kernel_rfl) (by simp only [A_1, s1c, bo, so, oa, os, on, ofs])
end
mutual
def s0 : Nat → S0 Bool
 | 0, _, _, _, _, _, _, _, _ => none
 | k + 1, x0, x1, x2, x3, x4, x5, x6, x7 => s0c (s1 k) some x0 x1 x2 x3 x4 x5 x6 x7
def s1 : Nat → S1 Bool
 | 0, _, _, _, _, _, _, _ => none
 | k + 1, x0, x1, x2, x3, x4, x5, x6 => s1c  some x0 x1 x2 x3 x4 x5 x6
end
def f (k : Nat)  : Option Bool := c (transform_Row.f k) (transform_Rows.f k) (transomlaw09_Plain.f k) (s0 k) some 
noncomputable abbrev E (k : Nat) : FEnv := env (transform_Row.f k) (transform_Rows.f k) (transomlaw09_Plain.f k) (s0 k) (s1 k)
theorem hE (k : Nat) : EnvOK (E k).toEnv := ctsOK (Lc (transform_Row.ok k) (Lc (transform_Rows.ok k) (Lc (transomlaw09_Plain.ok k) L0)))
theorem sk : ∀ k, ∀ s ∈ [sg0 (s0 k), sg1 (s1 k)], SegB prog f9 0 s
 | 0 => (Lc (sn (Lc (fun _ _ => rfl) L0)) (Lc (sn (Lc (fun _ _ => rfl) L0)) L0))
 | k + 1 => (Lc (sg_ok (hE k) (sk k) (Lc s0_ev L0)) (Lc (sg_ok (hE k) (sk k) (Lc s1_ev L0)) L0))
theorem ok (k : Nat) : CtOK prog 9 (ct (f k)) := fn_ok func9 rfl (by decide) (hE k) (sk k) (Lc ev L0)
end transomlaw11_awake
namespace transomlaw10_FewTables
def e (r : Int) : Res := ⟨.v (.one (.d (.int .i64) r)), []⟩
abbrev T (δ : Type) : Type := (List D_api_Table) → Option δ
abbrev A {δ : Type} (g : T δ) : Arm δ := ⟨[.d (.sl T_api_Table)], [], fun x y => g x.1⟩
abbrev G : Type := T Int
def ct (g : G) : Ct := mkCt 0 [] [A g] e
abbrev S0 (δ : Type) : Type := (List D_api_Table) → Int → Option δ
abbrev A_0 {δ : Type} (s : S0 δ) : Arm δ := ⟨[.d (.sl T_api_Table), .d (.int .i64)], [], fun x y => s x.1 x.2.1⟩
def sg0 (s : S0 Int) : Seg := mkSg [4, 1, 0, 1, 1] [] [0, 3] [A_0 s] e
section
variable {β : Type} (g6 : transomlaw09_Few.G) (s0 : S0 Int)
noncomputable abbrev env : FEnv := mkEnv prog f17 [(6, transomlaw09_Few.ct g6)] 0 [] [sg0 s0]
def c (ret : Int → Option β) (a0 : List D_api_Table) : Option β := (bif (decide ((a0.length : Int) > (20 : Int))) then (ret ((0 : Int))) else ((s0 a0 (0 : Int)).bind ret))
def s0c (ret : Int → Option β) (x0 : List D_api_Table) (x1 : Int) : Option β := (bif (decide (x1 < (x0.length : Int))) then (bif ((decide ((0 : Int) ≤ x1)) && (decide (x1 < (x0.length : Int)))) then ((g6 (elem T_api_Table x0 x1).1 (elem T_api_Table x0 x1).2.1 (elem T_api_Table x0 x1).2.2.1).bind fun r0 => (bif (r0 == (0 : Int)) then (ret ((0 : Int))) else ((s0 x0 (IntKind.wrap .i64 (x1 + (1 : Int)))).bind ret))) else none) else (ret ((1 : Int))))
variable {g6} {s0}
theorem ev : EvA (env g6 s0) [] [0] e (A (c s0 some)) := fun x y => Eq.trans (b := (A (c s0 fun r => some (e r))).G x y) (by kernel_rfl) (by simp only [A, c, bo, so, oa, os, on, ofs])
theorem s0_ev : EvA (env g6 s0) [4, 1, 0, 1, 1] [0, 3] e (A_0 (s0c g6 s0 some)) := fun x y => Eq.trans (b := (A_0 (s0c g6 s0 fun r => some (e r))).G x y) (by kernel_rfl) (by simp only [A_0, s0c, bo, so, oa, os, on, ofs])
end
def s0 : Nat → S0 Int
 | 0, _, _ => none
 | k + 1, x0, x1 => s0c (transomlaw09_Few.f k) (s0 k) some x0 x1
def f (k : Nat) (a0 : List D_api_Table) : Option Int := c (s0 k) some a0
noncomputable abbrev E (k : Nat) : FEnv := env (transomlaw09_Few.f k) (s0 k)
theorem hE (k : Nat) : EnvOK (E k).toEnv := ctsOK (Lc (transomlaw09_Few.ok k) L0)
theorem sk : ∀ k, ∀ s ∈ [sg0 (s0 k)], SegB prog f17 0 s
 | 0 => (Lc (sn (Lc (fun _ _ => rfl) L0)) L0)
 | k + 1 => (Lc (sg_ok (hE k) (sk k) (Lc s0_ev L0)) L0)
theorem ok (k : Nat) : CtOK prog 17 (ct (f k)) := fn_ok func17 rfl (by decide) (hE k) (sk k) (Lc ev L0)
end transomlaw10_FewTables
namespace change_Find_1
abbrev R : Type := Bool × ByteArray
def e (r : R) : Res := ⟨.v (.one (.d .bool r.1)), [some (.box [(.d .str r.2)])]⟩
abbrev T (δ : Type) : Type := ByteArray → Int → (List D_api_Col) → ByteArray → Option δ
abbrev A {δ : Type} (g : T δ) : Arm δ := ⟨[.s T_api_Table, .k (.ptr 0 0)], [.box [.g .str]], fun x y => g x.1.1.1 x.1.1.2.1 x.1.1.2.2.1 y.1.1⟩
abbrev G : Type := T R
def ct (g : G) : Ct := mkCt 1 [] [A g] e
section
variable {β : Type} 
noncomputable abbrev env : FEnv := mkEnv prog f44 [] 1 [] []
def c (ret : R → Option β) (a0 : ByteArray) (a1 : Int) (a2 : List D_api_Col) (a3 : ByteArray) : Option β := (ret ((a0.toList == a3.toList), a3))
theorem ev : EvA (env) [] [0, 1] e (A (c some)) := fun x y => Eq.trans (b := (A (c fun r => some (e r))).G x y) (by kernel_rfl) (by simp only [A, c, bo, so, oa, os, on, ofs])
end
def f (k : Nat) (a0 : ByteArray) (a1 : Int) (a2 : List D_api_Col) (a3 : ByteArray) : Option R := c  some a0 a1 a2 a3
noncomputable abbrev E (k : Nat) : FEnv := env  
theorem hE (k : Nat) : EnvOK (E k).toEnv := ctsOK L0
theorem ok (k : Nat) : CtOK prog 44 (ct (f k)) := fn_ok func44 rfl (by decide) (hE k) L0 (Lc ev L0)
end change_Find_1
namespace api_Table
abbrev R : Type := Int × ByteArray
def e (r : R) : Res := ⟨.v (.one (.d (.int .i64) r.1)), [some (.box [(.d .str r.2)])]⟩
abbrev T (δ : Type) : Type := (List D_api_Table) → ByteArray → Option δ
abbrev A {δ : Type} (g : T δ) : Arm δ := ⟨[.d (.sl T_api_Table), .k (.fn 44 [(0, 0)])], [.box [.g .str]], fun x y => g x.1 y.1.1⟩
abbrev G : Type := T R
def ct (g : G) : Ct := mkCt 1 [] [A g] e
abbrev S0 (δ : Type) : Type := (List D_api_Table) → Int → Int → ByteArray → Option δ
abbrev A_0 {δ : Type} (s : S0 δ) : Arm δ := ⟨[.d (.sl T_api_Table), .k (.fn 44 [(0, 0)]), .d (.int .i64), .d (.int .i64)], [.box [.g .str]], fun x y => s x.1 x.2.2.1 x.2.2.2.1 y.1.1⟩
def sg0 (s : S0 R) : Seg := mkSg [4, 1, 0, 1] [] [0, 1, 7, 8] [A_0 s] e
section
variable {β : Type} (g44 : change_Find_1.G) (s0 : S0 R)
noncomputable abbrev env : FEnv := mkEnv prog f43 [(44, change_Find_1.ct g44)] 1 [] [sg0 s0]
def c (ret : R → Option β) (a0 : List D_api_Table) (a1 : ByteArray) : Option β := ((s0 a0 (a0.length : Int) (0 : Int) a1).bind ret)
def s0c (ret : R → Option β) (x0 : List D_api_Table) (x1 x2 : Int) (x3 : ByteArray) : Option β := (bif (decide (x2 < x1)) then (bif ((decide ((0 : Int) ≤ x2)) && (decide (x2 < (x0.length : Int)))) then ((g44 (elem T_api_Table x0 x2).1 (elem T_api_Table x0 x2).2.1 (elem T_api_Table x0 x2).2.2.1 x3).bind fun r0 => (bif r0.1 then (ret (x2, r0.2)) else ((s0 x0 x1 (IntKind.wrap .i64 (x2 + (1 : Int))) r0.2).bind ret))) else none) else (ret ((-1 : Int), x3)))
variable {g44} {s0}
theorem ev : EvA (env g44 s0) [] [0, 1] e (A (c s0 some)) := fun x y => Eq.trans (b := (A (c s0 fun r => some (e r))).G x y) (by kernel_rfl) (by simp only [A, c, bo, so, oa, os, on, ofs])
theorem s0_ev : EvA (env g44 s0) [4, 1, 0, 1] [0, 1, 7, 8] e (A_0 (s0c g44 s0 some)) := fun x y => Eq.trans (b := (A_0 (s0c g44 s0 fun r => some (e r))).G x y) (by kernel_rfl) (by simp only [A_0, s0c, bo, so, oa, os, on, ofs])
end
def s0 : Nat → S0 R
 | 0, _, _, _, _ => none
 | k + 1, x0, x1, x2, x3 => s0c (change_Find_1.f k) (s0 k) some x0 x1 x2 x3
def f (k : Nat) (a0 : List D_api_Table) (a1 : ByteArray) : Option R := c (s0 k) some a0 a1
noncomputable abbrev E (k : Nat) : FEnv := env (change_Find_1.f k) (s0 k)
theorem hE (k : Nat) : EnvOK (E k).toEnv := ctsOK (Lc (change_Find_1.ok k) L0)
theorem sk : ∀ k, ∀ s ∈ [sg0 (s0 k)], SegB prog f43 1 s
 | 0 => (Lc (sn (Lc (fun _ _ => rfl) L0)) L0)
 | k + 1 => (Lc (sg_ok (hE k) (sk k) (Lc s0_ev L0)) L0)
theorem ok (k : Nat) : CtOK prog 43 (ct (f k)) := fn_ok func43 rfl (by decide) (hE k) (sk k) (Lc ev L0)
end api_Table
namespace change_Find
def e (r : Int) : Res := ⟨.v (.one (.d (.int .i64) r)), []⟩
abbrev T (δ : Type) : Type := (List D_api_Table) → ByteArray → Option δ
abbrev A {δ : Type} (g : T δ) : Arm δ := ⟨[.d (.sl T_api_Table), .d .str], [], fun x y => g x.1 x.2.1⟩
abbrev G : Type := T Int
def ct (g : G) : Ct := mkCt 0 [] [A g] e
section
variable {β : Type} (g43 : api_Table.G)
noncomputable abbrev env : FEnv := mkEnv prog f19 [(43, api_Table.ct g43)] 0 [] []
def c (ret : Int → Option β) (a0 : List D_api_Table) (a1 : ByteArray) : Option β := ((g43 a0 a1).bind fun r0 => (ret (r0.1)))
variable {g43}
theorem ev : EvA (env g43) [] [0, 1] e (A (c g43 some)) := fun x y => Eq.trans (b := (A (c g43 fun r => some (e r))).G x y) (by kernel_rfl) (by simp only [A, c, bo, so, oa, os, on, ofs])
end
def f (k : Nat) (a0 : List D_api_Table) (a1 : ByteArray) : Option Int := c (api_Table.f k) some a0 a1
noncomputable abbrev E (k : Nat) : FEnv := env (api_Table.f k) 
theorem hE (k : Nat) : EnvOK (E k).toEnv := ctsOK (Lc (api_Table.ok k) L0)
theorem ok (k : Nat) : CtOK prog 19 (ct (f k)) := fn_ok func19 rfl (by decide) (hE k) L0 (Lc ev L0)
end change_Find
namespace change_CheckAll
def e (r : Int) : Res := ⟨.v (.one (.d (.int .i64) r)), []⟩
abbrev T (δ : Type) : Type := (List D_api_Table) → Option δ
abbrev A {δ : Type} (g : T δ) : Arm δ := ⟨[.d (.sl T_api_Table)], [], fun x y => g x.1⟩
abbrev G : Type := T Int
def ct (g : G) : Ct := mkCt 0 [] [A g] e
abbrev S0 (δ : Type) : Type := (List D_api_Table) → (List D_api_Table) → Int → Int → Option δ
abbrev A_0 {δ : Type} (s : S0 δ) : Arm δ := ⟨[.d (.sl T_api_Table), .d (.sl T_api_Table), .d (.int .i64), .d (.int .i64)], [], fun x y => s x.1 x.2.1 x.2.2.1 x.2.2.2.1⟩
abbrev S1 (δ : Type) : Type := (List D_api_Table) → Int → Int → Option δ
abbrev A_1 {δ : Type} (s : S1 δ) : Arm δ := ⟨[.d (.sl T_api_Table), .d (.int .i64), .d (.int .i64)], [], fun x y => s x.1 x.2.1 x.2.2.1⟩
abbrev S2 (δ : Type) : Type := (List D_api_Table) → Int → Int → Bool → Option δ
abbrev A_2 {δ : Type} (s : S2 δ) : Arm δ := ⟨[.d (.sl T_api_Table), .d (.int .i64), .d (.int .i64), .d .bool], [], fun x y => s x.1 x.2.1 x.2.2.1 x.2.2.2.1⟩
abbrev S3 (δ : Type) : Type := (List D_api_Table) → Int → Int → Option δ
abbrev A_3 {δ : Type} (s : S3 δ) : Arm δ := ⟨[.d (.sl T_api_Table), .d (.int .i64), .d (.int .i64)], [], fun x y => s x.1 x.2.1 x.2.2.1⟩
def sg0 (s : S0 Int) : Seg := mkSg [4, 1, 0, 1, 1] [] [0, 10, 11, 12] [A_0 s] e
def sg1 (s : S1 Int) : Seg := mkSg [4, 1, 0, 1, 1, 1] [] [0, 23, 24] [A_1 s] e
def sg2 (s : S2 Int) : Seg := mkSg [1, 1, 4, 0, 1, 1, 5, 4, 1, 0, 1, 1, 1] [] [0, 23, 24, 42] [A_2 s] e
def sg3 (s : S3 Int) : Seg := mkSg [1, 1, 1, 5, 4, 1, 0, 1, 1, 1] [] [0, 23, 24] [A_3 s] e
section
variable {β : Type} (g45 : schema_Check.G) (s0 : S0 Int) (s1 : S1 Int) (s2 : S2 Int) (s3 : S3 Int)
noncomputable abbrev env : FEnv := mkEnv prog f40 [(45, schema_Check.ct g45)] 0 [] [sg0 s0, sg1 s1, sg2 s2, sg3 s3]
def c (ret : Int → Option β) (a0 : List D_api_Table) : Option β := (bif (decide ((a0.length : Int) > (16 : Int))) then (ret ((2 : Int))) else ((s0 a0 a0 (a0.length : Int) (0 : Int)).bind ret))
def s0c (ret : Int → Option β) (x0 x1 : List D_api_Table) (x2 x3 : Int) : Option β := (bif (decide (x3 < x2)) then (bif ((decide ((0 : Int) ≤ x3)) && (decide (x3 < (x1.length : Int)))) then ((g45 (elem T_api_Table x1 x3).1 (elem T_api_Table x1 x3).2.1 (elem T_api_Table x1 x3).2.2.1).bind fun r0 => (bif (r0 != (0 : Int)) then (ret (r0)) else ((s0 x0 x1 x2 (IntKind.wrap .i64 (x3 + (1 : Int)))).bind ret))) else none) else ((s1 x0 (x0.length : Int) (0 : Int)).bind ret))
def s1c (ret : Int → Option β) (x0 : List D_api_Table) (x1 x2 : Int) : Option β := (bif (decide (x2 < x1)) then (bif (decide (x2 > (0 : Int))) then (bif ((decide ((0 : Int) ≤ x2)) && (decide (x2 < (x0.length : Int)))) then (bif ((decide ((0 : Int) ≤ (IntKind.wrap .i64 (x2 - (1 : Int))))) && (decide ((IntKind.wrap .i64 (x2 - (1 : Int))) < (x0.length : Int)))) then ((s2 x0 x1 x2 ((Op.bytesLess (ByteArray.toList (elem T_api_Table x0 x2).1) (ByteArray.toList (elem T_api_Table x0 (IntKind.wrap .i64 (x2 - (1 : Int)))).1)) || ((ByteArray.toList (elem T_api_Table x0 x2).1) == (ByteArray.toList (elem T_api_Table x0 (IntKind.wrap .i64 (x2 - (1 : Int)))).1)))).bind ret) else none) else none) else ((s2 x0 x1 x2 false).bind ret)) else (ret ((0 : Int))))
def s2c (ret : Int → Option β) (x0 : List D_api_Table) (x1 x2 : Int) (x3 : Bool) : Option β := (bif x3 then (ret ((12 : Int))) else ((s3 x0 x1 x2).bind ret))
def s3c (ret : Int → Option β) (x0 : List D_api_Table) (x1 x2 : Int) : Option β := ((s1 x0 x1 (IntKind.wrap .i64 (x2 + (1 : Int)))).bind ret)
variable {g45} {s0} {s1} {s2} {s3}
theorem ev : EvA (env g45 s0 s1 s2 s3) [] [0] e (A (c s0 some)) := fun x y => Eq.trans (b := (A (c s0 fun r => some (e r))).G x y) (by kernel_rfl) (by simp only [A, c, bo, so, oa, os, on, ofs])
theorem s0_ev : EvA (env g45 s0 s1 s2 s3) [4, 1, 0, 1, 1] [0, 10, 11, 12] e (A_0 (s0c g45 s0 s1 some)) := fun x y => Eq.trans (b := (A_0 (s0c g45 s0 s1 fun r => some (e r))).G x y) (by kernel_rfl) (by simp only [A_0, s0c, bo, so, oa, os, on, ofs])
theorem s1_ev : EvA (env g45 s0 s1 s2 s3) [4, 1, 0, 1, 1, 1] [0, 23, 24] e (A_1 (s1c s2 some)) := fun x y => Eq.trans (b := (A_1 (s1c s2 fun r => some (e r))).G x y) (by kernel_rfl) (by simp only [A_1, s1c, bo, so, oa, os, on, ofs])
theorem s2_ev : EvA (env g45 s0 s1 s2 s3) [1, 1, 4, 0, 1, 1, 5, 4, 1, 0, 1, 1, 1] [0, 23, 24, 42] e (A_2 (s2c s3 some)) := fun x y => Eq.trans (b := (A_2 (s2c s3 fun r => some (e r))).G x y) (by kernel_rfl) (by simp only [A_2, s2c, bo, so, oa, os, on, ofs])
theorem s3_ev : EvA (env g45 s0 s1 s2 s3) [1, 1, 1, 5, 4, 1, 0, 1, 1, 1] [0, 23, 24] e (A_3 (s3c s1 some)) := fun x y => Eq.trans (b := (A_3 (s3c s1 fun r => some (e r))).G x y) (by kernel_rfl) (by simp only [A_3, s3c, bo, so, oa, os, on, ofs])
end
mutual
def s0 : Nat → S0 Int
 | 0, _, _, _, _ => none
 | k + 1, x0, x1, x2, x3 => s0c (schema_Check.f k) (s0 k) (s1 k) some x0 x1 x2 x3
def s1 : Nat → S1 Int
 | 0, _, _, _ => none
 | k + 1, x0, x1, x2 => s1c (s2 k) some x0 x1 x2
def s2 : Nat → S2 Int
 | 0, _, _, _, _ => none
 | k + 1, x0, x1, x2, x3 => s2c (s3 k) some x0 x1 x2 x3
def s3 : Nat → S3 Int
 | 0, _, _, _ => none
 | k + 1, x0, x1, x2 => s3c (s1 k) some x0 x1 x2
end
def f (k : Nat) (a0 : List D_api_Table) : Option Int := c (s0 k) some a0
noncomputable abbrev E (k : Nat) : FEnv := env (schema_Check.f k) (s0 k) (s1 k) (s2 k) (s3 k)
theorem hE (k : Nat) : EnvOK (E k).toEnv := ctsOK (Lc (schema_Check.ok k) L0)
theorem sk : ∀ k, ∀ s ∈ [sg0 (s0 k), sg1 (s1 k), sg2 (s2 k), sg3 (s3 k)], SegB prog f40 0 s
 | 0 => (Lc (sn (Lc (fun _ _ => rfl) L0)) (Lc (sn (Lc (fun _ _ => rfl) L0)) (Lc (sn (Lc (fun _ _ => rfl) L0)) (Lc (sn (Lc (fun _ _ => rfl) L0)) L0))))
 | k + 1 => (Lc (sg_ok (hE k) (sk k) (Lc s0_ev L0)) (Lc (sg_ok (hE k) (sk k) (Lc s1_ev L0)) (Lc (sg_ok (hE k) (sk k) (Lc s2_ev L0)) (Lc (sg_ok (hE k) (sk k) (Lc s3_ev L0)) L0))))
theorem ok (k : Nat) : CtOK prog 40 (ct (f k)) := fn_ok func40 rfl (by decide) (hE k) (sk k) (Lc ev L0)
end change_CheckAll
end Go.Proofs.YtijjlpgcpdapnaaGreatDoor.Aev
