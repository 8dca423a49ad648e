import Derived.Test.YtijjlpgcpdapnaaGreatDoorTys
import Derived.Test.YtijjlpgcpdapnaaGreatDoorProg
import Derived.Laws.Externs
import Derived.Lib.Bytealg
import Derived.Test.YtijjlpgcpdapnaaGreatDoorF1
import Derived.Test.YtijjlpgcpdapnaaGreatDoorF2
import Derived.Test.YtijjlpgcpdapnaaGreatDoorF3
import Derived.Test.YtijjlpgcpdapnaaGreatDoorF6
import Derived.Test.YtijjlpgcpdapnaaGreatDoorF7
import Derived.Test.YtijjlpgcpdapnaaGreatDoorF8
/- By a program of this session (AEV): functions of the program as plain functions, and that the machine does what they say. -/
namespace Go.Proofs.YtijjlpgcpdapnaaGreatDoor.Aev
set_option linter.unusedVariables false
set_option linter.unusedSimpArgs false
set_option maxRecDepth 100000
set_option maxHeartbeats 4000000
open Go Go.Proofs.Tryz
namespace change_Targets
abbrev R : Type := (List D_api_Table) × Int
def e (r : R) : Res := ⟨.tup [(.one (.d (.sl T_api_Table) r.1)), (.one (.d (.int .i64) r.2))], []⟩
abbrev T (δ : Type) : Type := (List D_api_Table) → D_api_Change → Option δ
abbrev A {δ : Type} (g : T δ) : Arm δ := ⟨[.d (.sl T_api_Table), .s T_api_Change], [], fun x y => g x.1 x.2.1.1⟩
abbrev G : Type := T R
def ct (g : G) : Ct := mkCt 0 [] [A g] e
abbrev change_Targets_0.S0 (δ : Type) : Type := (List D_api_Table) → D_api_Change → (List ByteArray) → (List ByteArray) → Int → Int → (List D_api_Table) → Option δ
abbrev A_0_0 {δ : Type} (s : change_Targets_0.S0 δ) : Arm δ := ⟨[.d (.sl T_api_Table), .v (.one (.i 104 true T_api_Change)), .k (.own 0), .d (.sl .str), .d (.sl .str), .d (.int .i64), .d (.int .i64)], [.own T_api_Table false], fun x y => s x.1 x.2.1 x.2.2.2.1 x.2.2.2.2.1 x.2.2.2.2.2.1 x.2.2.2.2.2.2.1 y.1⟩
abbrev change_Targets_0.S1 (δ : Type) : Type := (List D_api_Table) → D_api_Change → (List ByteArray) → (List ByteArray) → Int → Int → (List D_api_Table) → Option δ
abbrev A_0_1 {δ : Type} (s : change_Targets_0.S1 δ) : Arm δ := ⟨[.d (.sl T_api_Table), .v (.one (.i 105 true T_api_Change)), .k (.own 0), .d (.sl .str), .d (.sl .str), .d (.int .i64), .d (.int .i64)], [.own T_api_Table false], fun x y => s x.1 x.2.1 x.2.2.2.1 x.2.2.2.2.1 x.2.2.2.2.2.1 x.2.2.2.2.2.2.1 y.1⟩
abbrev change_Targets_0.S2 (δ : Type) : Type := (List D_api_Table) → D_api_Change → (List ByteArray) → (List ByteArray) → Int → Int → (List D_api_Table) → Option δ
abbrev A_0_2 {δ : Type} (s : change_Targets_0.S2 δ) : Arm δ := ⟨[.d (.sl T_api_Table), .v (.one (.i 106 true T_api_Change)), .k (.own 0), .d (.sl .str), .d (.sl .str), .d (.int .i64), .d (.int .i64)], [.own T_api_Table false], fun x y => s x.1 x.2.1 x.2.2.2.1 x.2.2.2.2.1 x.2.2.2.2.2.1 x.2.2.2.2.2.2.1 y.1⟩
abbrev change_Targets_0.S3 (δ : Type) : Type := (List D_api_Table) → D_api_Change → (List ByteArray) → (List ByteArray) → Int → Int → (List D_api_Table) → Option δ
abbrev A_0_3 {δ : Type} (s : change_Targets_0.S3 δ) : Arm δ := ⟨[.d (.sl T_api_Table), .v (.one (.i 107 true T_api_Change)), .k (.own 0), .d (.sl .str), .d (.sl .str), .d (.int .i64), .d (.int .i64)], [.own T_api_Table false], fun x y => s x.1 x.2.1 x.2.2.2.1 x.2.2.2.2.1 x.2.2.2.2.2.1 x.2.2.2.2.2.2.1 y.1⟩
abbrev change_Targets_0.S4 (δ : Type) : Type := (List D_api_Table) → D_api_Change → (List ByteArray) → (List ByteArray) → Int → Int → (List D_api_Table) → Option δ
abbrev A_0_4 {δ : Type} (s : change_Targets_0.S4 δ) : Arm δ := ⟨[.d (.sl T_api_Table), .v (.one (.i 108 true T_api_Change)), .k (.own 0), .d (.sl .str), .d (.sl .str), .d (.int .i64), .d (.int .i64)], [.own T_api_Table false], fun x y => s x.1 x.2.1 x.2.2.2.1 x.2.2.2.2.1 x.2.2.2.2.2.1 x.2.2.2.2.2.2.1 y.1⟩
abbrev change_Targets_0.S5 (δ : Type) : Type := (List D_api_Table) → D_api_Change → (List ByteArray) → (List ByteArray) → Int → Int → (List D_api_Table) → Option δ
abbrev A_0_5 {δ : Type} (s : change_Targets_0.S5 δ) : Arm δ := ⟨[.d (.sl T_api_Table), .v (.one (.i 109 true T_api_Change)), .k (.own 0), .d (.sl .str), .d (.sl .str), .d (.int .i64), .d (.int .i64)], [.own T_api_Table false], fun x y => s x.1 x.2.1 x.2.2.2.1 x.2.2.2.2.1 x.2.2.2.2.2.1 x.2.2.2.2.2.2.1 y.1⟩
def sg0 (s0 : change_Targets_0.S0 R) (s1 : change_Targets_0.S1 R) (s2 : change_Targets_0.S2 R) (s3 : change_Targets_0.S3 R) (s4 : change_Targets_0.S4 R) (s5 : change_Targets_0.S5 R) : Seg := mkSg [4, 1, 0, 1, 1, 1, 1, 1] [.own 8 T_api_Table] [0, 6, 8, 9, 30, 31, 32] [A_0_0 s0, A_0_1 s1, A_0_2 s2, A_0_3 s3, A_0_4 s4, A_0_5 s5] e
section
variable {β : Type} (g19 : change_Find.G) (g25 : slices_Contains_string_string.G) (g39 : change_of.G) (g40 : change_CheckAll.G) (g41_0 : change_makes.G0) (g41_1 : change_makes.G1) (g41_2 : change_makes.G2) (g41_3 : change_makes.G3) (g41_4 : change_makes.G4) (g41_5 : change_makes.G5) (g42 : List D_api_Col → Option (List D_api_Col)) (g151 : change_create_sources.G) (g152 : change_create_targets.G) (g154 : change_add_sources.G) (g155 : change_add_targets.G) (g157 : change_drop_sources.G) (g158 : change_drop_targets.G) (g160 : change_retype_sources.G) (g161 : change_retype_targets.G) (g162 : change_split_sources.G) (g163 : change_split_targets.G) (g165 : change_merge_sources.G) (g166 : change_merge_targets.G) (s0_0 : change_Targets_0.S0 R) (s0_1 : change_Targets_0.S1 R) (s0_2 : change_Targets_0.S2 R) (s0_3 : change_Targets_0.S3 R) (s0_4 : change_Targets_0.S4 R) (s0_5 : change_Targets_0.S5 R)
noncomputable abbrev env : FEnv := mkEnv prog f18 [(19, change_Find.ct g19), (25, slices_Contains_string_string.ct g25), (39, change_of.ct g39), (40, change_CheckAll.ct g40), (41, change_makes.ct g41_0 g41_1 g41_2 g41_3 g41_4 g41_5), (42, api_Col_42.ct g42), (151, change_create_sources.ct g151), (152, change_create_targets.ct g152), (154, change_add_sources.ct g154), (155, change_add_targets.ct g155), (157, change_drop_sources.ct g157), (158, change_drop_targets.ct g158), (160, change_retype_sources.ct g160), (161, change_retype_targets.ct g161), (162, change_split_sources.ct g162), (163, change_split_targets.ct g163), (165, change_merge_sources.ct g165), (166, change_merge_targets.ct g166)] 0 [] [sg0 s0_0 s0_1 s0_2 s0_3 s0_4 s0_5]
def c (ret : R → Option β) (a0 : List D_api_Table) (a1 : D_api_Change) : Option β := ((g39 a1).bind fun r0 => (Sum.elim (fun r1 => ((g40 a0).bind fun r2 => (bif (r2 != (0 : Int)) then (ret ([], r2)) else ((g151 r1).bind fun r3 => ((s0_0 a0 r1 r3 r3 (r3.length : Int) (0 : Int) []).bind ret))))) (fun r4 => (Sum.elim (fun r5 => ((g40 a0).bind fun r6 => (bif (r6 != (0 : Int)) then (ret ([], r6)) else ((g154 r5).bind fun r7 => ((s0_1 a0 r5 r7 r7 (r7.length : Int) (0 : Int) []).bind ret))))) (fun r8 => (Sum.elim (fun r9 => ((g40 a0).bind fun r10 => (bif (r10 != (0 : Int)) then (ret ([], r10)) else ((g157 r9).bind fun r11 => ((s0_2 a0 r9 r11 r11 (r11.length : Int) (0 : Int) []).bind ret))))) (fun r12 => (Sum.elim (fun r13 => ((g40 a0).bind fun r14 => (bif (r14 != (0 : Int)) then (ret ([], r14)) else ((g160 r13).bind fun r15 => ((s0_3 a0 r13 r15 r15 (r15.length : Int) (0 : Int) []).bind ret))))) (fun r16 => (Sum.elim (fun r17 => ((g40 a0).bind fun r18 => (bif (r18 != (0 : Int)) then (ret ([], r18)) else ((g162 r17).bind fun r19 => ((s0_4 a0 r17 r19 r19 (r19.length : Int) (0 : Int) []).bind ret))))) (fun r20 => (Sum.elim (fun r21 => ((g40 a0).bind fun r22 => (bif (r22 != (0 : Int)) then (ret ([], r22)) else ((g165 r21).bind fun r23 => ((s0_5 a0 r21 r23 r23 (r23.length : Int) (0 : Int) []).bind ret))))) (fun r24 => ((g40 a0).bind fun r25 => (bif (r25 != (0 : Int)) then (ret ([], r25)) else (ret ([], (1 : Int)))))) r20)) r16)) r12)) r8)) r4)) r0))
def s0_0c (ret : R → Option β) (x0 : List D_api_Table) (x1 : D_api_Change) (x2 x3 : List ByteArray) (x4 x5 : Int) (x6 : List D_api_Table) : Option β := (bif (decide (x5 < x4)) then (bif ((decide ((0 : Int) ≤ x5)) && (decide (x5 < (x3.length : Int)))) then ((g19 x0 (elem Ty.str x3 x5)).bind fun r0 => (bif (decide (r0 < (0 : Int))) then (ret ([], (9 : Int))) else (bif ((decide ((0 : Int) ≤ r0)) && (decide (r0 < (x0.length : Int)))) then (bif (decide (((x6.length + (1 : Nat)) * (48 : Nat)) ≤ (35184372088832 : Nat))) then ((s0_0 x0 x1 x2 x3 x4 (IntKind.wrap .i64 (x5 + (1 : Int))) (x6 ++ [(elem T_api_Table x0 r0)])).bind ret) else none) else none))) else none) else ((g152 x1 x6).bind fun r1 => (Sum.elim (fun r2 => (bif (r2 != (0 : Int)) then (ret ([], r2)) else (ret ([], (0 : Int))))) (fun r3 => (bif (r3.1 != (0 : Int)) then (ret ([], r3.1)) else ((g19 x0 r3.2.1).bind fun r4 => (bif (decide (r4 ≥ (0 : Int))) then ((g41_0 x1).bind fun r5 => (bif r5 then (ret ([], (12 : Int))) else ((g25 x2 r3.2.1).bind fun r6 => (bif (!r6) then (ret ([], (12 : Int))) else ((g42 r3.2.2.2).bind fun r7 => (ret ([(r3.2.1, (r3.2.2.1, (r7, ())))], (0 : Int)))))))) else ((g42 r3.2.2.2).bind fun r8 => (ret ([(r3.2.1, (r3.2.2.1, (r8, ())))], (0 : Int)))))))) r1)))
def s0_1c (ret : R → Option β) (x0 : List D_api_Table) (x1 : D_api_Change) (x2 x3 : List ByteArray) (x4 x5 : Int) (x6 : List D_api_Table) : Option β := (bif (decide (x5 < x4)) then (bif ((decide ((0 : Int) ≤ x5)) && (decide (x5 < (x3.length : Int)))) then ((g19 x0 (elem Ty.str x3 x5)).bind fun r0 => (bif (decide (r0 < (0 : Int))) then (ret ([], (9 : Int))) else (bif ((decide ((0 : Int) ≤ r0)) && (decide (r0 < (x0.length : Int)))) then (bif (decide (((x6.length + (1 : Nat)) * (48 : Nat)) ≤ (35184372088832 : Nat))) then ((s0_1 x0 x1 x2 x3 x4 (IntKind.wrap .i64 (x5 + (1 : Int))) (x6 ++ [(elem T_api_Table x0 r0)])).bind ret) else none) else none))) else none) else ((g155 x1 x6).bind fun r1 => (Sum.elim (fun r2 => (bif (r2 != (0 : Int)) then (ret ([], r2)) else (ret ([], (0 : Int))))) (fun r3 => (bif (r3.1 != (0 : Int)) then (ret ([], r3.1)) else ((g19 x0 r3.2.1).bind fun r4 => (bif (decide (r4 ≥ (0 : Int))) then ((g41_1 x1).bind fun r5 => (bif r5 then (ret ([], (12 : Int))) else ((g25 x2 r3.2.1).bind fun r6 => (bif (!r6) then (ret ([], (12 : Int))) else ((g42 r3.2.2.2).bind fun r7 => (ret ([(r3.2.1, (r3.2.2.1, (r7, ())))], (0 : Int)))))))) else ((g42 r3.2.2.2).bind fun r8 => (ret ([(r3.2.1, (r3.2.2.1, (r8, ())))], (0 : Int)))))))) r1)))
def s0_2c (ret : R → Option β) (x0 : List D_api_Table) (x1 : D_api_Change) (x2 x3 : List ByteArray) (x4 x5 : Int) (x6 : List D_api_Table) : Option β := (bif (decide (x5 < x4)) then (bif ((decide ((0 : Int) ≤ x5)) && (decide (x5 < (x3.length : Int)))) then ((g19 x0 (elem Ty.str x3 x5)).bind fun r0 => (bif (decide (r0 < (0 : Int))) then (ret ([], (9 : Int))) else (bif ((decide ((0 : Int) ≤ r0)) && (decide (r0 < (x0.length : Int)))) then (bif (decide (((x6.length + (1 : Nat)) * (48 : Nat)) ≤ (35184372088832 : Nat))) then ((s0_2 x0 x1 x2 x3 x4 (IntKind.wrap .i64 (x5 + (1 : Int))) (x6 ++ [(elem T_api_Table x0 r0)])).bind ret) else none) else none))) else none) else ((g158 x1 x6).bind fun r1 => (Sum.elim (fun r2 => (bif (r2 != (0 : Int)) then (ret ([], r2)) else (ret ([], (0 : Int))))) (fun r3 => (bif (r3.1 != (0 : Int)) then (ret ([], r3.1)) else ((g19 x0 r3.2.1).bind fun r4 => (bif (decide (r4 ≥ (0 : Int))) then ((g41_2 x1).bind fun r5 => (bif r5 then (ret ([], (12 : Int))) else ((g25 x2 r3.2.1).bind fun r6 => (bif (!r6) then (ret ([], (12 : Int))) else ((g42 r3.2.2.2).bind fun r7 => (ret ([(r3.2.1, (r3.2.2.1, (r7, ())))], (0 : Int)))))))) else ((g42 r3.2.2.2).bind fun r8 => (ret ([(r3.2.1, (r3.2.2.1, (r8, ())))], (0 : Int)))))))) r1)))
def s0_3c (ret : R → Option β) (x0 : List D_api_Table) (x1 : D_api_Change) (x2 x3 : List ByteArray) (x4 x5 : Int) (x6 : List D_api_Table) : Option β := (bif (decide (x5 < x4)) then (bif ((decide ((0 : Int) ≤ x5)) && (decide (x5 < (x3.length : Int)))) then ((g19 x0 (elem Ty.str x3 x5)).bind fun r0 => (bif (decide (r0 < (0 : Int))) then (ret ([], (9 : Int))) else (bif ((decide ((0 : Int) ≤ r0)) && (decide (r0 < (x0.length : Int)))) then (bif (decide (((x6.length + (1 : Nat)) * (48 : Nat)) ≤ (35184372088832 : Nat))) then ((s0_3 x0 x1 x2 x3 x4 (IntKind.wrap .i64 (x5 + (1 : Int))) (x6 ++ [(elem T_api_Table x0 r0)])).bind ret) else none) else none))) else none) else ((g161 x1 x6).bind fun r1 => (Sum.elim (fun r2 => (bif (r2 != (0 : Int)) then (ret ([], r2)) else (ret ([], (0 : Int))))) (fun r3 => (bif (r3.1 != (0 : Int)) then (ret ([], r3.1)) else ((g19 x0 r3.2.1).bind fun r4 => (bif (decide (r4 ≥ (0 : Int))) then ((g41_3 x1).bind fun r5 => (bif r5 then (ret ([], (12 : Int))) else ((g25 x2 r3.2.1).bind fun r6 => (bif (!r6) then (ret ([], (12 : Int))) else ((g42 r3.2.2.2).bind fun r7 => (ret ([(r3.2.1, (r3.2.2.1, (r7, ())))], (0 : Int)))))))) else ((g42 r3.2.2.2).bind fun r8 => (ret ([(r3.2.1, (r3.2.2.1, (r8, ())))], (0 : Int)))))))) r1)))
def s0_4c (ret : R → Option β) (x0 : List D_api_Table) (x1 : D_api_Change) (x2 x3 : List ByteArray) (x4 x5 : Int) (x6 : List D_api_Table) : Option β := (bif (decide (x5 < x4)) then (bif ((decide ((0 : Int) ≤ x5)) && (decide (x5 < (x3.length : Int)))) then ((g19 x0 (elem Ty.str x3 x5)).bind fun r0 => (bif (decide (r0 < (0 : Int))) then (ret ([], (9 : Int))) else (bif ((decide ((0 : Int) ≤ r0)) && (decide (r0 < (x0.length : Int)))) then (bif (decide (((x6.length + (1 : Nat)) * (48 : Nat)) ≤ (35184372088832 : Nat))) then ((s0_4 x0 x1 x2 x3 x4 (IntKind.wrap .i64 (x5 + (1 : Int))) (x6 ++ [(elem T_api_Table x0 r0)])).bind ret) else none) else none))) else none) else ((g163 x1 x6).bind fun r1 => (Sum.elim (fun r2 => (bif (r2 != (0 : Int)) then (ret ([], r2)) else (ret ([], (0 : Int))))) (fun r3 => (bif (r3.1 != (0 : Int)) then (ret ([], r3.1)) else ((g19 x0 r3.2.1).bind fun r4 => (bif (decide (r4 ≥ (0 : Int))) then ((g41_4 x1).bind fun r5 => (bif r5 then (ret ([], (12 : Int))) else ((g25 x2 r3.2.1).bind fun r6 => (bif (!r6) then (ret ([], (12 : Int))) else ((g42 r3.2.2.2.2.2.1).bind fun r7 => ((g19 x0 r3.2.2.2.1).bind fun r8 => (bif (decide (r8 ≥ (0 : Int))) then ((g41_4 x1).bind fun r9 => (bif r9 then (ret ([], (12 : Int))) else ((g25 x2 r3.2.2.2.1).bind fun r10 => (bif (!r10) then (ret ([], (12 : Int))) else ((g42 r3.2.2.2.2.2.2).bind fun r11 => (ret ([(r3.2.1, (r3.2.2.1, (r7, ()))), (r3.2.2.2.1, (r3.2.2.2.2.1, (r11, ())))], (0 : Int)))))))) else ((g42 r3.2.2.2.2.2.2).bind fun r12 => (ret ([(r3.2.1, (r3.2.2.1, (r7, ()))), (r3.2.2.2.1, (r3.2.2.2.2.1, (r12, ())))], (0 : Int))))))))))) else ((g42 r3.2.2.2.2.2.1).bind fun r13 => ((g19 x0 r3.2.2.2.1).bind fun r14 => (bif (decide (r14 ≥ (0 : Int))) then ((g41_4 x1).bind fun r15 => (bif r15 then (ret ([], (12 : Int))) else ((g25 x2 r3.2.2.2.1).bind fun r16 => (bif (!r16) then (ret ([], (12 : Int))) else ((g42 r3.2.2.2.2.2.2).bind fun r17 => (ret ([(r3.2.1, (r3.2.2.1, (r13, ()))), (r3.2.2.2.1, (r3.2.2.2.2.1, (r17, ())))], (0 : Int)))))))) else ((g42 r3.2.2.2.2.2.2).bind fun r18 => (ret ([(r3.2.1, (r3.2.2.1, (r13, ()))), (r3.2.2.2.1, (r3.2.2.2.2.1, (r18, ())))], (0 : Int))))))))))) r1)))
def s0_5c (ret : R → Option β) (x0 : List D_api_Table) (x1 : D_api_Change) (x2 x3 : List ByteArray) (x4 x5 : Int) (x6 : List D_api_Table) : Option β := (bif (decide (x5 < x4)) then (bif ((decide ((0 : Int) ≤ x5)) && (decide (x5 < (x3.length : Int)))) then ((g19 x0 (elem Ty.str x3 x5)).bind fun r0 => (bif (decide (r0 < (0 : Int))) then (ret ([], (9 : Int))) else (bif ((decide ((0 : Int) ≤ r0)) && (decide (r0 < (x0.length : Int)))) then (bif (decide (((x6.length + (1 : Nat)) * (48 : Nat)) ≤ (35184372088832 : Nat))) then ((s0_5 x0 x1 x2 x3 x4 (IntKind.wrap .i64 (x5 + (1 : Int))) (x6 ++ [(elem T_api_Table x0 r0)])).bind ret) else none) else none))) else none) else ((g166 x1 x6).bind fun r1 => (Sum.elim (fun r2 => (bif (r2 != (0 : Int)) then (ret ([], r2)) else (ret ([], (0 : Int))))) (fun r3 => (bif (r3.1 != (0 : Int)) then (ret ([], r3.1)) else ((g19 x0 r3.2.1).bind fun r4 => (bif (decide (r4 ≥ (0 : Int))) then ((g41_5 x1).bind fun r5 => (bif r5 then (ret ([], (12 : Int))) else ((g25 x2 r3.2.1).bind fun r6 => (bif (!r6) then (ret ([], (12 : Int))) else ((g42 r3.2.2.2).bind fun r7 => (ret ([(r3.2.1, (r3.2.2.1, (r7, ())))], (0 : Int)))))))) else ((g42 r3.2.2.2).bind fun r8 => (ret ([(r3.2.1, (r3.2.2.1, (r8, ())))], (0 : Int)))))))) r1)))
variable {g19} {g25} {g39} {g40} {g41_0} {g41_1} {g41_2} {g41_3} {g41_4} {g41_5} {g42} {g151} {g152} {g154} {g155} {g157} {g158} {g160} {g161} {g162} {g163} {g165} {g166} {s0_0} {s0_1} {s0_2} {s0_3} {s0_4} {s0_5}
theorem ev : EvA (env g19 g25 g39 g40 g41_0 g41_1 g41_2 g41_3 g41_4 g41_5 g42 g151 g152 g154 g155 g157 g158 g160 g161 g162 g163 g165 g166 s0_0 s0_1 s0_2 s0_3 s0_4 s0_5) [] [0, 1] e (A (c g39 g40 g151 g154 g157 g160 g162 g165 s0_0 s0_1 s0_2 s0_3 s0_4 s0_5 some)) := fun x y => Eq.trans (b := (A (c g39 g40 g151 g154 g157 g160 g162 g165 s0_0 s0_1 s0_2 s0_3 s0_4 s0_5 fun r => some (e r))).G x y) (by kernel_rfl) (by simp only [A, c, bo, so, oa, os, on, ofs])
theorem s0_0_ev : EvA (env g19 g25 g39 g40 g41_0 g41_1 g41_2 g41_3 g41_4 g41_5 g42 g151 g152 g154 g155 g157 g158 g160 g161 g162 g163 g165 g166 s0_0 s0_1 s0_2 s0_3 s0_4 s0_5) [4, 1, 0, 1, 1, 1, 1, 1] [0, 6, 8, 9, 30, 31, 32] e (A_0_0 (s0_0c g19 g25 g41_0 g42 g152 s0_0 some)) := fun x y => Eq.trans (b := (A_0_0 (s0_0c g19 g25 g41_0 g42 g152 s0_0 fun r => some (e r))).G x y) (by kernel_rfl) (by simp only [A_0_0, s0_0c, bo, so, oa, os, on, ofs])
theorem s0_1_ev : EvA (env g19 g25 g39 g40 g41_0 g41_1 g41_2 g41_3 g41_4 g41_5 g42 g151 g152 g154 g155 g157 g158 g160 g161 g162 g163 g165 g166 s0_0 s0_1 s0_2 s0_3 s0_4 s0_5) [4, 1, 0, 1, 1, 1, 1, 1] [0, 6, 8, 9, 30, 31, 32] e (A_0_1 (s0_1c g19 g25 g41_1 g42 g155 s0_1 some)) := fun x y => Eq.trans (b := (A_0_1 (s0_1c g19 g25 g41_1 g42 g155 s0_1 fun r => some (e r))).G x y) (by kernel_rfl) (by simp only [A_0_1, s0_1c, bo, so, oa, os, on, ofs])
theorem s0_2_ev : EvA (env g19 g25 g39 g40 g41_0 g41_1 g41_2 g41_3 g41_4 g41_5 g42 g151 g152 g154 g155 g157 g158 g160 g161 g162 g163 g165 g166 s0_0 s0_1 s0_2 s0_3 s0_4 s0_5) [4, 1, 0, 1, 1, 1, 1, 1] [0, 6, 8, 9, 30, 31, 32] e (A_0_2 (s0_2c g19 g25 g41_2 g42 g158 s0_2 some)) := fun x y => Eq.trans (b := (A_0_2 (s0_2c g19 g25 g41_2 g42 g158 s0_2 fun r => some (e r))).G x y) (by kernel_rfl) (by simp only [A_0_2, s0_2c, bo, so, oa, os, on, ofs])
theorem s0_3_ev : EvA (env g19 g25 g39 g40 g41_0 g41_1 g41_2 g41_3 g41_4 g41_5 g42 g151 g152 g154 g155 g157 g158 g160 g161 g162 g163 g165 g166 s0_0 s0_1 s0_2 s0_3 s0_4 s0_5) [4, 1, 0, 1, 1, 1, 1, 1] [0, 6, 8, 9, 30, 31, 32] e (A_0_3 (s0_3c g19 g25 g41_3 g42 g161 s0_3 some)) := fun x y => Eq.trans (b := (A_0_3 (s0_3c g19 g25 g41_3 g42 g161 s0_3 fun r => some (e r))).G x y) (by kernel_rfl) (by simp only [A_0_3, s0_3c, bo, so, oa, os, on, ofs])
theorem s0_4_ev : EvA (env g19 g25 g39 g40 g41_0 g41_1 g41_2 g41_3 g41_4 g41_5 g42 g151 g152 g154 g155 g157 g158 g160 g161 g162 g163 g165 g166 s0_0 s0_1 s0_2 s0_3 s0_4 s0_5) [4, 1, 0, 1, 1, 1, 1, 1] [0, 6, 8, 9, 30, 31, 32] e (A_0_4 (s0_4c g19 g25 g41_4 g42 g163 s0_4 some)) := fun x y => Eq.trans (b := (A_0_4 (s0_4c g19 g25 g41_4 g42 g163 s0_4 fun r => some (e r))).G x y) (by kernel_rfl) (by simp only [A_0_4, s0_4c, bo, so, oa, os, on, ofs])
theorem s0_5_ev : EvA (env g19 g25 g39 g40 g41_0 g41_1 g41_2 g41_3 g41_4 g41_5 g42 g151 g152 g154 g155 g157 g158 g160 g161 g162 g163 g165 g166 s0_0 s0_1 s0_2 s0_3 s0_4 s0_5) [4, 1, 0, 1, 1, 1, 1, 1] [0, 6, 8, 9, 30, 31, 32] e (A_0_5 (s0_5c g19 g25 g41_5 g42 g166 s0_5 some)) := fun x y => Eq.trans (b := (A_0_5 (s0_5c g19 g25 g41_5 g42 g166 s0_5 fun r => some (e r))).G x y) (by kernel_rfl) (by simp only [A_0_5, s0_5c, bo, so, oa, os, on, ofs])
end
mutual
def s0_0 : Nat → change_Targets_0.S0 R
 | 0, _, _, _, _, _, _, _ => none
 | k + 1, x0, x1, x2, x3, x4, x5, x6 => s0_0c (change_Find.f k) (slices_Contains_string_string.f k) (change_makes.f0 k) (api_Col_42.f k) (change_create_targets.f k) (s0_0 k) some x0 x1 x2 x3 x4 x5 x6
def s0_1 : Nat → change_Targets_0.S1 R
 | 0, _, _, _, _, _, _, _ => none
 | k + 1, x0, x1, x2, x3, x4, x5, x6 => s0_1c (change_Find.f k) (slices_Contains_string_string.f k) (change_makes.f1 k) (api_Col_42.f k) (change_add_targets.f k) (s0_1 k) some x0 x1 x2 x3 x4 x5 x6
def s0_2 : Nat → change_Targets_0.S2 R
 | 0, _, _, _, _, _, _, _ => none
 | k + 1, x0, x1, x2, x3, x4, x5, x6 => s0_2c (change_Find.f k) (slices_Contains_string_string.f k) (change_makes.f2 k) (api_Col_42.f k) (change_drop_targets.f k) (s0_2 k) some x0 x1 x2 x3 x4 x5 x6
def s0_3 : Nat → change_Targets_0.S3 R
 | 0, _, _, _, _, _, _, _ => none
 | k + 1, x0, x1, x2, x3, x4, x5, x6 => s0_3c (change_Find.f k) (slices_Contains_string_string.f k) (change_makes.f3 k) (api_Col_42.f k) (change_retype_targets.f k) (s0_3 k) some x0 x1 x2 x3 x4 x5 x6
def s0_4 : Nat → change_Targets_0.S4 R
 | 0, _, _, _, _, _, _, _ => none
 | k + 1, x0, x1, x2, x3, x4, x5, x6 => s0_4c (change_Find.f k) (slices_Contains_string_string.f k) (change_makes.f4 k) (api_Col_42.f k) (change_split_targets.f k) (s0_4 k) some x0 x1 x2 x3 x4 x5 x6
def s0_5 : Nat → change_Targets_0.S5 R
 | 0, _, _, _, _, _, _, _ => none
 | k + 1, x0, x1, x2, x3, x4, x5, x6 => s0_5c (change_Find.f k) (slices_Contains_string_string.f k) (change_makes.f5 k) (api_Col_42.f k) (change_merge_targets.f k) (s0_5 k) some x0 x1 x2 x3 x4 x5 x6
end
def f (k : Nat) (a0 : List D_api_Table) (a1 : D_api_Change) : Option R := c (change_of.f k) (change_CheckAll.f k) (change_create_sources.f k) (change_add_sources.f k) (change_drop_sources.f k) (change_retype_sources.f k) (change_split_sources.f k) (change_merge_sources.f k) (s0_0 k) (s0_1 k) (s0_2 k) (s0_3 k) (s0_4 k) (s0_5 k) some a0 a1
noncomputable abbrev E (k : Nat) : FEnv := env (change_Find.f k) (slices_Contains_string_string.f k) (change_of.f k) (change_CheckAll.f k) (change_makes.f0 k) (change_makes.f1 k) (change_makes.f2 k) (change_makes.f3 k) (change_makes.f4 k) (change_makes.f5 k) (api_Col_42.f k) (change_create_sources.f k) (change_create_targets.f k) (change_add_sources.f k) (change_add_targets.f k) (change_drop_sources.f k) (change_drop_targets.f k) (change_retype_sources.f k) (change_retype_targets.f k) (change_split_sources.f k) (change_split_targets.f k) (change_merge_sources.f k) (change_merge_targets.f k) (s0_0 k) (s0_1 k) (s0_2 k) (s0_3 k) (s0_4 k) (s0_5 k)
theorem hE (k : Nat) : EnvOK (E k).toEnv := ctsOK (Lc (change_Find.ok k) (Lc (slices_Contains_string_string.ok k) (Lc (change_of.ok k) (Lc (change_CheckAll.ok k) (Lc (change_makes.ok k) (Lc (api_Col_42.ok k) (Lc (change_create_sources.ok k) (Lc (change_create_targets.ok k) (Lc (change_add_sources.ok k) (Lc (change_add_targets.ok k) (Lc (change_drop_sources.ok k) (Lc (change_drop_targets.ok k) (Lc (change_retype_sources.ok k) (Lc (change_retype_targets.ok k) (Lc (change_split_sources.ok k) (Lc (change_split_targets.ok k) (Lc (change_merge_sources.ok k) (Lc (change_merge_targets.ok k) L0))))))))))))))))))
theorem sk : ∀ k, ∀ s ∈ [sg0 (s0_0 k) (s0_1 k) (s0_2 k) (s0_3 k) (s0_4 k) (s0_5 k)], SegB prog f18 0 s
 | 0 => (Lc (sn (Lc (fun _ _ => rfl) (Lc (fun _ _ => rfl) (Lc (fun _ _ => rfl) (Lc (fun _ _ => rfl) (Lc (fun _ _ => rfl) (Lc (fun _ _ => rfl) L0))))))) L0)
 | k + 1 => (Lc (sg_ok (hE k) (sk k) (Lc s0_0_ev (Lc s0_1_ev (Lc s0_2_ev (Lc s0_3_ev (Lc s0_4_ev (Lc s0_5_ev L0))))))) L0)
theorem ok (k : Nat) : CtOK prog 18 (ct (f k)) := fn_ok func18 rfl (by decide) (hE k) (sk k) (Lc ev L0)
end change_Targets
namespace keycode_put8
def e (r : (List Int)) : Res := ⟨.v (.one (.own 0)), [some (.own (.int .u8) false r)]⟩
abbrev T (δ : Type) : Type := Int → (List Int) → Option δ
abbrev A {δ : Type} (g : T δ) : Arm δ := ⟨[.k (.own 0), .d (.int .u64)], [.own (.int .u8) false], fun x y => g x.2.1 y.1⟩
abbrev G : Type := T (List Int)
def ct (g : G) : Ct := mkCt 0 [0] [A g] e
abbrev S0 (δ : Type) : Type := Int → Int → (List Int) → Option δ
abbrev A_0 {δ : Type} (s : S0 δ) : Arm δ := ⟨[.k (.own 0), .d (.int .u64), .d (.int .i64)], [.own (.int .u8) false], fun x y => s x.2.1 x.2.2.1 y.1⟩
def sg0 (s : S0 (List Int)) : Seg := mkSg [4, 1, 0, 1] [] [0, 1, 5] [A_0 s] e
section
variable {β : Type} (s0 : S0 (List Int))
noncomputable abbrev env : FEnv := mkEnv prog f103 [] 0 [0] [sg0 s0]
def c (ret : (List Int) → Option β) (a0 : Int) (a1 : List Int) : Option β := ((s0 a0 (56 : Int) a1).bind ret)
def s0c (ret : (List Int) → Option β) (x0 x1 : Int) (x2 : List Int) : Option β := (bif (decide (x1 ≥ (0 : Int))) then (bif (decide ((0 : Int) ≤ x1)) then (bif (decide (((x2.length + (1 : Nat)) * (1 : Nat)) ≤ (35184372088832 : Nat))) then ((s0 x0 (IntKind.wrap .i64 (x1 - (8 : Int))) (x2 ++ [(IntKind.wrap .u8 (Int.fdiv x0 ((2 : Int) ^ (Min.min (Int.toNat x1) (64 : Nat)))))])).bind ret) else none) else none) else (ret (x2)))
variable {s0}
theorem ev : EvA (env s0) [] [0, 1] e (A (c s0 some)) := fun x y => Eq.trans (b := (A (c s0 fun r => some (e r))).G x y) (by kernel_rfl) (by simp only [A, c, bo, so, oa, os, on, ofs])
theorem s0_ev : EvA (env s0) [4, 1, 0, 1] [0, 1, 5] e (A_0 (s0c s0 some)) := fun x y => Eq.trans (b := (A_0 (s0c s0 fun r => some (e r))).G x y) (by kernel_rfl) (by simp only [A_0, s0c, bo, so, oa, os, on, ofs])
end
def s0 : Nat → S0 (List Int)
 | 0, _, _, _ => none
 | k + 1, x0, x1, x2 => s0c (s0 k) some x0 x1 x2
def f (k : Nat) (a0 : Int) (a1 : List Int) : Option (List Int) := c (s0 k) some a0 a1
noncomputable abbrev E (k : Nat) : FEnv := env  (s0 k)
theorem hE (k : Nat) : EnvOK (E k).toEnv := ctsOK L0
theorem sk : ∀ k, ∀ s ∈ [sg0 (s0 k)], SegB prog f103 0 s
 | 0 => (Lc (sn (Lc (fun _ _ => rfl) L0)) L0)
 | k + 1 => (Lc (sg_ok (hE k) (sk k) (Lc s0_ev L0)) L0)
theorem ok (k : Nat) : CtOK prog 103 (ct (f k)) := fn_ok func103 rfl (by decide) (hE k) (sk k) (Lc ev L0)
end keycode_put8
namespace reals_Key
def e (r : Int) : Res := ⟨.v (.one (.d (.int .u64) r)), []⟩
abbrev T (δ : Type) : Type := Int → Option δ
abbrev A {δ : Type} (g : T δ) : Arm δ := ⟨[.d (.int .u64)], [], fun x y => g x.1⟩
abbrev G : Type := T Int
def ct (g : G) : Ct := mkCt 0 [] [A g] e
section
variable {β : Type} (g75 : reals_Canon.G)
noncomputable abbrev env : FEnv := mkEnv prog f104 [(75, reals_Canon.ct g75)] 0 [] []
def c (ret : Int → Option β) (a0 : Int) : Option β := ((g75 a0).bind fun r0 => (bif ((IntKind.wrap .u64 ((BitVec.toNat ((BitVec.ofInt (64 : Nat) r0) &&& (BitVec.ofInt (64 : Nat) (9223372036854775808 : Int)))) : Int)) != (0 : Int)) then (ret ((IntKind.wrap .u64 ((BitVec.toNat ((BitVec.ofInt (64 : Nat) (18446744073709551615 : Int)) ^^^ (BitVec.ofInt (64 : Nat) r0))) : Int)))) else (ret ((IntKind.wrap .u64 ((BitVec.toNat ((BitVec.ofInt (64 : Nat) r0) ||| (BitVec.ofInt (64 : Nat) (9223372036854775808 : Int)))) : Int))))))
variable {g75}
theorem ev : EvA (env g75) [] [0] e (A (c g75 some)) := fun x y => Eq.trans (b := (A (c g75 fun r => some (e r))).G x y) (by kernel_rfl) (by simp only [A, c, bo, so, oa, os, on, ofs])
end
def f (k : Nat) (a0 : Int) : Option Int := c (reals_Canon.f k) some a0
noncomputable abbrev E (k : Nat) : FEnv := env (reals_Canon.f k) 
theorem hE (k : Nat) : EnvOK (E k).toEnv := ctsOK (Lc (reals_Canon.ok k) L0)
theorem ok (k : Nat) : CtOK prog 104 (ct (f k)) := fn_ok func104 rfl (by decide) (hE k) L0 (Lc ev L0)
end reals_Key
namespace keycode_escaped
def e (r : ByteArray) : Res := ⟨.v (.one (.fn 121 [(0, 0)])), [some (.box [(.d .str r)])]⟩
abbrev T (δ : Type) : Type := ByteArray → Option δ
abbrev A {δ : Type} (g : T δ) : Arm δ := ⟨[.d .str], [], fun x y => g x.1⟩
abbrev G : Type := T ByteArray
def ct (g : G) : Ct := mkCt 0 [] [A g] e
section
variable {β : Type} 
noncomputable abbrev env : FEnv := mkEnv prog f105 [] 0 [] []
def c (ret : ByteArray → Option β) (a0 : ByteArray) : Option β := (ret (a0))
theorem ev : EvA (env) [] [0] e (A (c some)) := fun x y => Eq.trans (b := (A (c fun r => some (e r))).G x y) (by kernel_rfl) (by simp only [A, c, bo, so, oa, os, on, ofs])
end
def f (k : Nat) (a0 : ByteArray) : Option ByteArray := c  some a0
noncomputable abbrev E (k : Nat) : FEnv := env  
theorem hE (k : Nat) : EnvOK (E k).toEnv := ctsOK L0
theorem ok (k : Nat) : CtOK prog 105 (ct (f k)) := fn_ok func105 rfl (by decide) (hE k) L0 (Lc ev L0)
end keycode_escaped
end Go.Proofs.YtijjlpgcpdapnaaGreatDoor.Aev
