import Derived.Test.YtijjlpgcpdapnaaGreatDoorTys
import Derived.Test.YtijjlpgcpdapnaaGreatDoorProg
import Derived.Laws.Externs
import Derived.Lib.Bytealg
import Derived.Test.YtijjlpgcpdapnaaGreatDoorF0
import Derived.Test.YtijjlpgcpdapnaaGreatDoorF2
import Derived.Test.YtijjlpgcpdapnaaGreatDoorF5
import Derived.Test.YtijjlpgcpdapnaaGreatDoorF6
import Derived.Test.YtijjlpgcpdapnaaGreatDoorF9
import Derived.Test.YtijjlpgcpdapnaaGreatDoorF10
/- By a program of this session (AEV): functions of the program as plain functions, and that the machine does what they say. -/
namespace Go.Proofs.YtijjlpgcpdapnaaGreatDoor.Aev
set_option linter.unusedVariables false
set_option linter.unusedSimpArgs false
set_option maxRecDepth 100000
set_option maxHeartbeats 4000000
open Go Go.Proofs.Tryz
namespace transomlaw11_TransformFits
def e (r : Bool) : Res := ⟨.v (.one (.d .bool r)), []⟩
abbrev T (δ : Type) : Type := (List D_api_Table) → D_api_Change → (List D_api_Value) → Option δ
abbrev A {δ : Type} (g : T δ) : Arm δ := ⟨[.d (.sl T_api_Table), .s T_api_Change, .d (.sl T_api_Value)], [], fun x y => g x.1 x.2.1.1 x.2.2.1⟩
abbrev G : Type := T Bool
def ct (g : G) : Ct := mkCt 0 [] [A g] e
abbrev S0 (δ : Type) : Type := (List D_api_Table) → (List D_api_Value) → Bool → D_api_Change → Option δ
abbrev A_0 {δ : Type} (s : S0 δ) : Arm δ := ⟨[.d (.sl T_api_Table), .d (.sl T_api_Value), .k (.ptr 0 0), .d .bool], [.box [.g T_api_Change]], fun x y => s x.1 x.2.1 x.2.2.2.1 y.1.1⟩
abbrev S1 (δ : Type) : Type := (List D_api_Table) → (List D_api_Value) → D_api_Change → Option δ
abbrev A_1 {δ : Type} (s : S1 δ) : Arm δ := ⟨[.d (.sl T_api_Table), .d (.sl T_api_Value), .k (.ptr 0 0)], [.box [.g T_api_Change]], fun x y => s x.1 x.2.1 y.1.1⟩
abbrev S2 (δ : Type) : Type := (List D_api_Table) → (List D_api_Value) → (List D_api_Table) → Bool → D_api_Change → Option δ
abbrev A_2 {δ : Type} (s : S2 δ) : Arm δ := ⟨[.d (.sl T_api_Table), .d (.sl T_api_Value), .k (.ptr 0 0), .d (.sl T_api_Table), .d .bool], [.box [.g T_api_Change]], fun x y => s x.1 x.2.1 x.2.2.2.1 x.2.2.2.2.1 y.1.1⟩
abbrev S3 (δ : Type) : Type := (List D_api_Table) → (List D_api_Value) → (List D_api_Table) → D_api_Change → Option δ
abbrev A_3 {δ : Type} (s : S3 δ) : Arm δ := ⟨[.d (.sl T_api_Table), .d (.sl T_api_Value), .k (.ptr 0 0), .d (.sl T_api_Table)], [.box [.g T_api_Change]], fun x y => s x.1 x.2.1 x.2.2.2.1 y.1.1⟩
abbrev S4 (δ : Type) : Type := (List D_api_Table) → (List D_api_Value) → (List D_api_Table) → Int → Bool → D_api_Change → Option δ
abbrev A_4 {δ : Type} (s : S4 δ) : Arm δ := ⟨[.d (.sl T_api_Table), .d (.sl T_api_Value), .k (.ptr 0 0), .d (.sl T_api_Table), .d (.int .i64), .d .bool], [.box [.g T_api_Change]], fun x y => s x.1 x.2.1 x.2.2.2.1 x.2.2.2.2.1 x.2.2.2.2.2.1 y.1.1⟩
abbrev S5 (δ : Type) : Type := Bool → Option δ
abbrev A_5 {δ : Type} (s : S5 δ) : Arm δ := ⟨[.d .bool], [], fun x y => s x.1⟩
abbrev S6 (δ : Type) : Type := (List D_api_Table) → (List D_api_Value) → (List D_api_Table) → Int → D_api_Change → Option δ
abbrev A_6 {δ : Type} (s : S6 δ) : Arm δ := ⟨[.d (.sl T_api_Table), .d (.sl T_api_Value), .k (.ptr 0 0), .d (.sl T_api_Table), .d (.int .i64)], [.box [.g T_api_Change]], fun x y => s x.1 x.2.1 x.2.2.2.1 x.2.2.2.2.1 y.1.1⟩
abbrev S7 (δ : Type) : Type := Bool → Option δ
abbrev A_7 {δ : Type} (s : S7 δ) : Arm δ := ⟨[.d .bool], [], fun x y => s x.1⟩
abbrev S8 (δ : Type) : Type := (List D_api_Table) → (List (List D_api_Value)) → ByteArray → Int → Option δ
abbrev A_8 {δ : Type} (s : S8 δ) : Arm δ := ⟨[.d (.sl T_api_Table), .d (.sl (.sl T_api_Value)), .d .str, .d (.int .i64)], [], fun x y => s x.1 x.2.1 x.2.2.1 x.2.2.2.1⟩
abbrev S9 (δ : Type) : Type := (List D_api_Table) → (List (List D_api_Value)) → ByteArray → Int → Bool → Option δ
abbrev A_9 {δ : Type} (s : S9 δ) : Arm δ := ⟨[.d (.sl T_api_Table), .d (.sl (.sl T_api_Value)), .d .str, .d (.int .i64), .d .bool], [], fun x y => s x.1 x.2.1 x.2.2.1 x.2.2.2.1 x.2.2.2.2.1⟩
abbrev S10 (δ : Type) : Type := (List D_api_Table) → (List (List D_api_Value)) → ByteArray → Int → Option δ
abbrev A_10 {δ : Type} (s : S10 δ) : Arm δ := ⟨[.d (.sl T_api_Table), .d (.sl (.sl T_api_Value)), .d .str, .d (.int .i64)], [], fun x y => s x.1 x.2.1 x.2.2.1 x.2.2.2.1⟩
def sg0 (s : S0 Bool) : Seg := mkSg [1, 0, 1] [] [0, 2, 4, 29] [A_0 s] e
def sg1 (s : S1 Bool) : Seg := mkSg [1, 1] [] [0, 2, 4] [A_1 s] e
def sg2 (s : S2 Bool) : Seg := mkSg [1, 0, 1, 1, 1] [] [0, 2, 4, 7, 43] [A_2 s] e
def sg3 (s : S3 Bool) : Seg := mkSg [1, 1, 1, 1] [] [0, 2, 4, 7] [A_3 s] e
def sg4 (s : S4 Bool) : Seg := mkSg [1, 0, 1, 1, 1, 1, 1] [] [0, 2, 4, 7, 9, 59] [A_4 s] e
def sg5 (s : S5 Bool) : Seg := mkSg [1, 2, 1, 0, 1, 1, 1, 1, 1] [] [6] [A_5 s] e
def sg6 (s : S6 Bool) : Seg := mkSg [1, 1, 1, 1, 1, 1] [] [0, 2, 4, 7, 9] [A_6 s] e
def sg7 (s : S7 Bool) : Seg := mkSg [1, 2, 1, 0, 1, 1, 1, 1, 1, 1, 1] [] [6] [A_7 s] e
def sg8 (s : S8 Bool) : Seg := mkSg [4, 1, 0, 1, 1, 1, 1, 1, 1, 1, 1, 1, 1] [] [7, 10, 12, 14] [A_8 s] e
def sg9 (s : S9 Bool) : Seg := mkSg [1, 1, 4, 0, 1, 5, 4, 1, 0, 1, 1, 1, 1, 1, 1, 1, 1, 1, 1] [] [7, 10, 12, 14, 121] [A_9 s] e
def sg10 (s : S10 Bool) : Seg := mkSg [1, 1, 5, 4, 1, 0, 1, 1, 1, 1, 1, 1, 1, 1, 1, 1] [] [7, 10, 12, 14] [A_10 s] e
section
variable {β : Type} (g7 : transomlaw10_Few.G) (g8 : transomlaw05_Few.G) (g9 : transomlaw11_awake.G) (g10 : transform_Row.G) (g17 : transomlaw10_FewTables.G) (g18 : change_Targets.G) (g19 : change_Find.G) (g20 : schema_Fits.G) (g21 : schema_Key.G) (s0 : S0 Bool) (s1 : S1 Bool) (s2 : S2 Bool) (s3 : S3 Bool) (s4 : S4 Bool) (s5 : S5 Bool) (s6 : S6 Bool) (s7 : S7 Bool) (s8 : S8 Bool) (s9 : S9 Bool) (s10 : S10 Bool)
noncomputable abbrev env : FEnv := mkEnv prog f5 [(7, transomlaw10_Few.ct g7), (8, transomlaw05_Few.ct g8), (9, transomlaw11_awake.ct g9), (10, transform_Row.ct g10), (17, transomlaw10_FewTables.ct g17), (18, change_Targets.ct g18), (19, change_Find.ct g19), (20, schema_Fits.ct g20), (21, schema_Key.ct g21)] 0 [] [sg0 s0, sg1 s1, sg2 s2, sg3 s3, sg4 s4, sg5 s5, sg6 s6, sg7 s7, sg8 s8, sg9 s9, sg10 s10]
def c (ret : Bool → Option β) (a0 : List D_api_Table) (a1 : D_api_Change) (a2 : List D_api_Value) : Option β := ((g17 a0).bind fun r0 => (bif (r0 == (0 : Int)) then ((s0 a0 a2 true a1).bind ret) else ((g7 a1).bind fun r1 => (bif (r1 == (0 : Int)) then ((s0 a0 a2 true a1).bind ret) else ((g8 a2).bind fun r2 => ((s0 a0 a2 (r2 == (0 : Int)) a1).bind ret))))))
def s0c (ret : Bool → Option β) (x0 : List D_api_Table) (x1 : List D_api_Value) (x2 : Bool) (x3 : D_api_Change) : Option β := (bif x2 then (g9.bind fun r0 => (ret (r0))) else ((s1 x0 x1 x3).bind ret))
def s1c (ret : Bool → Option β) (x0 : List D_api_Table) (x1 : List D_api_Value) (x2 : D_api_Change) : Option β := ((g18 x0 x2).bind fun r0 => (bif (r0.2 != (0 : Int)) then ((s2 x0 x1 r0.1 true x2).bind ret) else ((s2 x0 x1 r0.1 (x2.1 == (1 : Int)) x2).bind ret)))
def s2c (ret : Bool → Option β) (x0 : List D_api_Table) (x1 : List D_api_Value) (x2 : List D_api_Table) (x3 : Bool) (x4 : D_api_Change) : Option β := (bif x3 then (g9.bind fun r0 => (ret (r0))) else ((s3 x0 x1 x2 x4).bind ret))
def s3c (ret : Bool → Option β) (x0 : List D_api_Table) (x1 : List D_api_Value) (x2 : List D_api_Table) (x3 : D_api_Change) : Option β := ((g19 x0 x3.2.1).bind fun r0 => (bif (decide (r0 < (0 : Int))) then ((s4 x0 x1 x2 r0 true x3).bind ret) else (bif ((decide ((0 : Int) ≤ r0)) && (decide (r0 < (x0.length : Int)))) then ((g20 (elem T_api_Table x0 r0).1 (elem T_api_Table x0 r0).2.1 (elem T_api_Table x0 r0).2.2.1 x1).bind fun r1 => ((s4 x0 x1 x2 r0 (r1 != (0 : Int)) x3).bind ret)) else none)))
def s4c (ret : Bool → Option β) (x0 : List D_api_Table) (x1 : List D_api_Value) (x2 : List D_api_Table) (x3 : Int) (x4 : Bool) (x5 : D_api_Change) : Option β := (bif x4 then (bif (decide (x3 ≥ (0 : Int))) then (g9.bind fun r0 => ((s5 r0).bind ret)) else ((s5 false).bind ret)) else ((s6 x0 x1 x2 x3 x5).bind ret))
def s5c (ret : Bool → Option β) (x0 : Bool) : Option β := (ret (x0))
def s6c (ret : Bool → Option β) (x0 : List D_api_Table) (x1 : List D_api_Value) (x2 : List D_api_Table) (x3 : Int) (x4 : D_api_Change) : Option β := (bif ((decide ((0 : Int) ≤ x3)) && (decide (x3 < (x0.length : Int)))) then ((g10 (elem T_api_Table x0 x3).1 (elem T_api_Table x0 x3).2.1 (elem T_api_Table x0 x3).2.2.1 x4 x1).bind fun r0 => (bif (r0.2 != (0 : Int)) then (bif (x4.1 == (4 : Int)) then (g9.bind fun r1 => ((s7 r1).bind ret)) else ((s7 false).bind ret)) else (bif ((r0.1.length : Int) != (x2.length : Int)) then (ret (false)) else (bif ((decide ((0 : Int) ≤ x3)) && (decide (x3 < (x0.length : Int)))) then ((g21 (elem T_api_Table x0 x3).1 (elem T_api_Table x0 x3).2.1 (elem T_api_Table x0 x3).2.2.1 x1).bind fun r2 => ((s8 x2 r0.1 r2.1 (0 : Int)).bind ret)) else none)))) else none)
def s7c (ret : Bool → Option β) (x0 : Bool) : Option β := (ret (x0))
def s8c (ret : Bool → Option β) (x0 : List D_api_Table) (x1 : List (List D_api_Value)) (x2 : ByteArray) (x3 : Int) : Option β := (bif (decide (x3 < (x1.length : Int))) then (bif ((decide ((0 : Int) ≤ x3)) && (decide (x3 < (x0.length : Int)))) then (bif ((decide ((0 : Int) ≤ x3)) && (decide (x3 < (x1.length : Int)))) then ((g21 (elem T_api_Table x0 x3).1 (elem T_api_Table x0 x3).2.1 (elem T_api_Table x0 x3).2.2.1 (elem (Ty.sl T_api_Value) x1 x3)).bind fun r0 => (bif (r0.2 != (0 : Int)) then ((s9 x0 x1 x2 x3 true).bind ret) else ((s9 x0 x1 x2 x3 (!(r0.1.toList == x2.toList))).bind ret))) else none) else none) else (g9.bind fun r1 => (ret (r1))))
def s9c (ret : Bool → Option β) (x0 : List D_api_Table) (x1 : List (List D_api_Value)) (x2 : ByteArray) (x3 : Int) (x4 : Bool) : Option β := (bif x4 then (ret (false)) else ((s10 x0 x1 x2 x3).bind ret))
def s10c (ret : Bool → Option β) (x0 : List D_api_Table) (x1 : List (List D_api_Value)) (x2 : ByteArray) (x3 : Int) : Option β := ((s8 x0 x1 x2 (IntKind.wrap .i64 (x3 + (1 : Int)))).bind ret)
variable {g7} {g8} {g9} {g10} {g17} {g18} {g19} {g20} {g21} {s0} {s1} {s2} {s3} {s4} {s5} {s6} {s7} {s8} {s9} {s10}
theorem ev : EvA (env g7 g8 g9 g10 g17 g18 g19 g20 g21 s0 s1 s2 s3 s4 s5 s6 s7 s8 s9 s10) [] [0, 1, 2] e (A (c g7 g8 g17 s0 some)) := fun x y => Eq.trans (b := (A (c g7 g8 g17 s0 fun r => some (e r))).G x y) (by kernel_rfl) (by simp only [A, c, bo, so, oa, os, on, ofs])
theorem s0_ev : EvA (env g7 g8 g9 g10 g17 g18 g19 g20 g21 s0 s1 s2 s3 s4 s5 s6 s7 s8 s9 s10) [1, 0, 1] [0, 2, 4, 29] e (A_0 (s0c g9 s1 some)) := fun x y => Eq.trans (b := (A_0 (s0c g9 s1 fun r => some (e r))).G x y) (by kernel_rfl) (by simp only [A_0, s0c, bo, so, oa, os, on, ofs])
theorem s1_ev : EvA (env g7 g8 g9 g10 g17 g18 g19 g20 g21 s0 s1 s2 s3 s4 s5 s6 s7 s8 s9 s10) [1, 1] [0, 2, 4] e (A_1 (s1c g18 s2 some)) := fun x y => Eq.trans (b := (A_1 (s1c g18 s2 fun r => some (e r))).G x y) (by kernel_rfl) (by simp only [A_1, s1c, bo, so, oa, os, on, ofs])
theorem s2_ev : EvA (env g7 g8 g9 g10 g17 g18 g19 g20 g21 s0 s1 s2 s3 s4 s5 s6 s7 s8 s9 s10) [1, 0, 1, 1, 1] [0, 2, 4, 7, 43] e (A_2 (s2c g9 s3 some)) := fun x y => Eq.trans (b := (A_2 (s2c g9 s3 fun r => some (e r))).G x y) (by kernel_rfl) (by simp only [A_2, s2c, bo, so, oa, os, on, ofs])
theorem s3_ev : EvA (env g7 g8 g9 g10 g17 g18 g19 g20 g21 s0 s1 s2 s3 s4 s5 s6 s7 s8 s9 s10) [1, 1, 1, 1] [0, 2, 4, 7] e (A_3 (s3c g19 g20 s4 some)) := fun x y => Eq.trans (b := (A_3 (s3c g19 g20 s4 fun r => some (e r))).G x y) (by kernel_rfl) (by simp only [A_3, s3c, bo, so, oa, os, on, ofs])
theorem s4_ev : EvA (env g7 g8 g9 g10 g17 g18 g19 g20 g21 s0 s1 s2 s3 s4 s5 s6 s7 s8 s9 s10) [1, 0, 1, 1, 1, 1, 1] [0, 2, 4, 7, 9, 59] e (A_4 (s4c g9 s5 s6 some)) := fun x y => Eq.trans (b := (A_4 (s4c g9 s5 s6 fun r => some (e r))).G x y) (by kernel_rfl) (by simp only [A_4, s4c, bo, so, oa, os, on, ofs])
theorem s5_ev : EvA (env g7 g8 g9 g10 g17 g18 g19 g20 g21 s0 s1 s2 s3 s4 s5 s6 s7 s8 s9 s10) [1, 2, 1, 0, 1, 1, 1, 1, 1] [6] e (A_5 (s5c some)) := fun x y => Eq.trans (b := (A_5 (s5c fun r => some (e r))).G x y) (by kernel_rfl) (by simp only [A_5, s5c, bo, so, oa, os, on, ofs])
theorem s6_ev : EvA (env g7 g8 g9 g10 g17 g18 g19 g20 g21 s0 s1 s2 s3 s4 s5 s6 s7 s8 s9 s10) [1, 1, 1, 1, 1, 1] [0, 2, 4, 7, 9] e (A_6 (s6c g9 g10 g21 s7 s8 some)) := fun x y => Eq.trans (b := (A_6 (s6c g9 g10 g21 s7 s8 fun r => some (e r))).G x y) (by kernel_rfl) (by simp only [A_6, s6c, bo, so, oa, os, on, ofs])
theorem s7_ev : EvA (env g7 g8 g9 g10 g17 g18 g19 g20 g21 s0 s1 s2 s3 s4 s5 s6 s7 s8 s9 s10) [1, 2, 1, 0, 1, 1, 1, 1, 1, 1, 1] [6] e (A_7 (s7c some)) := fun x y => Eq.trans (b := (A_7 (s7c fun r => some (e r))).G x y) (by kernel_rfl) (by simp only [A_7, s7c, bo, so, oa, os, on, ofs])
theorem s8_ev : EvA (env g7 g8 g9 g10 g17 g18 g19 g20 g21 s0 s1 s2 s3 s4 s5 s6 s7 s8 s9 s10) [4, 1, 0, 1, 1, 1, 1, 1, 1, 1, 1, 1, 1] [7, 10, 12, 14] e (A_8 (s8c g9 g21 s9 some)) := fun x y => Eq.trans (b := (A_8 (s8c g9 g21 s9 fun r => some (e r))).G x y) (by kernel_rfl) (by simp only [A_8, s8c, bo, so, oa, os, on, ofs])
theorem s9_ev : EvA (env g7 g8 g9 g10 g17 g18 g19 g20 g21 s0 s1 s2 s3 s4 s5 s6 s7 s8 s9 s10) [1, 1, 4, 0, 1, 5, 4, 1, 0, 1, 1, 1, 1, 1, 1, 1, 1, 1, 1] [7, 10, 12, 14, 121] e (A_9 (s9c s10 some)) := fun x y => Eq.trans (b := (A_9 (s9c s10 fun r => some (e r))).G x y) (by kernel_rfl) (by simp only [A_9, s9c, bo, so, oa, os, on, ofs])
theorem s10_ev : EvA (env g7 g8 g9 g10 g17 g18 g19 g20 g21 s0 s1 s2 s3 s4 s5 s6 s7 s8 s9 s10) [1, 1, 5, 4, 1, 0, 1, 1, 1, 1, 1, 1, 1, 1, 1, 1] [7, 10, 12, 14] e (A_10 (s10c s8 some)) := fun x y => Eq.trans (b := (A_10 (s10c s8 fun r => some (e r))).G x y) (by kernel_rfl) (by simp only [A_10, s10c, bo, so, oa, os, on, ofs])
end
mutual
def s0 : Nat → S0 Bool
 | 0, _, _, _, _ => none
 | k + 1, x0, x1, x2, x3 => s0c (transomlaw11_awake.f k) (s1 k) some x0 x1 x2 x3
def s1 : Nat → S1 Bool
 | 0, _, _, _ => none
 | k + 1, x0, x1, x2 => s1c (change_Targets.f k) (s2 k) some x0 x1 x2
def s2 : Nat → S2 Bool
 | 0, _, _, _, _, _ => none
 | k + 1, x0, x1, x2, x3, x4 => s2c (transomlaw11_awake.f k) (s3 k) some x0 x1 x2 x3 x4
def s3 : Nat → S3 Bool
 | 0, _, _, _, _ => none
 | k + 1, x0, x1, x2, x3 => s3c (change_Find.f k) (schema_Fits.f k) (s4 k) some x0 x1 x2 x3
def s4 : Nat → S4 Bool
 | 0, _, _, _, _, _, _ => none
 | k + 1, x0, x1, x2, x3, x4, x5 => s4c (transomlaw11_awake.f k) (s5 k) (s6 k) some x0 x1 x2 x3 x4 x5
def s5 : Nat → S5 Bool
 | 0, _ => none
 | k + 1, x0 => s5c  some x0
def s6 : Nat → S6 Bool
 | 0, _, _, _, _, _ => none
 | k + 1, x0, x1, x2, x3, x4 => s6c (transomlaw11_awake.f k) (transform_Row.f k) (schema_Key.f k) (s7 k) (s8 k) some x0 x1 x2 x3 x4
def s7 : Nat → S7 Bool
 | 0, _ => none
 | k + 1, x0 => s7c  some x0
def s8 : Nat → S8 Bool
 | 0, _, _, _, _ => none
 | k + 1, x0, x1, x2, x3 => s8c (transomlaw11_awake.f k) (schema_Key.f k) (s9 k) some x0 x1 x2 x3
def s9 : Nat → S9 Bool
 | 0, _, _, _, _, _ => none
 | k + 1, x0, x1, x2, x3, x4 => s9c (s10 k) some x0 x1 x2 x3 x4
def s10 : Nat → S10 Bool
 | 0, _, _, _, _ => none
 | k + 1, x0, x1, x2, x3 => s10c (s8 k) some x0 x1 x2 x3
end
def f (k : Nat) (a0 : List D_api_Table) (a1 : D_api_Change) (a2 : List D_api_Value) : Option Bool := c (transomlaw10_Few.f k) (transomlaw05_Few.f k) (transomlaw10_FewTables.f k) (s0 k) some a0 a1 a2
noncomputable abbrev E (k : Nat) : FEnv := env (transomlaw10_Few.f k) (transomlaw05_Few.f k) (transomlaw11_awake.f k) (transform_Row.f k) (transomlaw10_FewTables.f k) (change_Targets.f k) (change_Find.f k) (schema_Fits.f k) (schema_Key.f k) (s0 k) (s1 k) (s2 k) (s3 k) (s4 k) (s5 k) (s6 k) (s7 k) (s8 k) (s9 k) (s10 k)
theorem hE (k : Nat) : EnvOK (E k).toEnv := ctsOK (Lc (transomlaw10_Few.ok k) (Lc (transomlaw05_Few.ok k) (Lc (transomlaw11_awake.ok k) (Lc (transform_Row.ok k) (Lc (transomlaw10_FewTables.ok k) (Lc (change_Targets.ok k) (Lc (change_Find.ok k) (Lc (schema_Fits.ok k) (Lc (schema_Key.ok k) L0)))))))))
theorem sk : ∀ k, ∀ s ∈ [sg0 (s0 k), sg1 (s1 k), sg2 (s2 k), sg3 (s3 k), sg4 (s4 k), sg5 (s5 k), sg6 (s6 k), sg7 (s7 k), sg8 (s8 k), sg9 (s9 k), sg10 (s10 k)], SegB prog f5 0 s
 | 0 => (Lc (sn (Lc (fun _ _ => rfl) L0)) (Lc (sn (Lc (fun _ _ => rfl) L0)) (Lc (sn (Lc (fun _ _ => rfl) L0)) (Lc (sn (Lc (fun _ _ => rfl) L0)) (Lc (sn (Lc (fun _ _ => rfl) L0)) (Lc (sn (Lc (fun _ _ => rfl) L0)) (Lc (sn (Lc (fun _ _ => rfl) L0)) (Lc (sn (Lc (fun _ _ => rfl) L0)) (Lc (sn (Lc (fun _ _ => rfl) L0)) (Lc (sn (Lc (fun _ _ => rfl) L0)) (Lc (sn (Lc (fun _ _ => rfl) L0)) L0)))))))))))
 | k + 1 => (Lc (sg_ok (hE k) (sk k) (Lc s0_ev L0)) (Lc (sg_ok (hE k) (sk k) (Lc s1_ev L0)) (Lc (sg_ok (hE k) (sk k) (Lc s2_ev L0)) (Lc (sg_ok (hE k) (sk k) (Lc s3_ev L0)) (Lc (sg_ok (hE k) (sk k) (Lc s4_ev L0)) (Lc (sg_ok (hE k) (sk k) (Lc s5_ev L0)) (Lc (sg_ok (hE k) (sk k) (Lc s6_ev L0)) (Lc (sg_ok (hE k) (sk k) (Lc s7_ev L0)) (Lc (sg_ok (hE k) (sk k) (Lc s8_ev L0)) (Lc (sg_ok (hE k) (sk k) (Lc s9_ev L0)) (Lc (sg_ok (hE k) (sk k) (Lc s10_ev L0)) L0)))))))))))
theorem ok (k : Nat) : CtOK prog 5 (ct (f k)) := fn_ok func5 rfl (by decide) (hE k) (sk k) (Lc ev L0)
end transomlaw11_TransformFits
end Go.Proofs.YtijjlpgcpdapnaaGreatDoor.Aev
