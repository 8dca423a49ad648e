/- By a program of this session (AEV): functions of the program as plain functions, and that the machine does what they say. -/
import Derived.Test.YtaehpfmnejeddaaGreatDoorTys
import Derived.Test.YtaehpfmnejeddaaGreatDoorProg
import Derived.Laws.Externs
import Derived.Lib.Bytealg
import Derived.Test.YtaehpfmnejeddaaGreatDoorF3
import Derived.Test.YtaehpfmnejeddaaGreatDoorF4
import Derived.Test.YtaehpfmnejeddaaGreatDoorF5
namespace Go.Proofs.YtaehpfmnejeddaaGreatDoor.Aev
set_option linter.unusedVariables false
set_option linter.unusedSimpArgs false
set_option maxRecDepth 100000
set_option maxHeartbeats 4000000
open Go Go.Proofs.Tryz
namespace ops_Read
def e (r : D_api_Op × ByteArray × Int) : Res := ⟨.tup [(.agg (flat T_api_Op r.1)), (.one (.d .str r.2.1)), (.one (.d (.int .i64) r.2.2))], []⟩
abbrev G : Type := ByteArray → Option (D_api_Op × ByteArray × Int)
def ct (g : G) : Ct := mkCt 0 [] [⟨[.d .str], [], fun x y => g x.1⟩] e
abbrev S0 : Type := ByteArray → Bool → Int → ByteArray → Int → Int → ByteArray → ByteArray → ByteArray → ByteArray → ByteArray → Int → ByteArray → Int → Bool → Int → Int → Int → ByteArray → ByteArray → Int → ByteArray → Int → Int → ByteArray → (List D_api_Value) → (List D_api_Value) → (List D_api_Value) → Int → Int → ByteArray → ByteArray → ByteArray → ByteArray → ByteArray → Int → ByteArray → Int → Bool → Int → Int → Int → ByteArray → ByteArray → Int → Option (D_api_Op × ByteArray × Int)
abbrev S1 : Type := ByteArray → Int → ByteArray → Int → Int → ByteArray → ByteArray → ByteArray → ByteArray → ByteArray → Int → ByteArray → Int → Bool → Int → Int → Int → ByteArray → ByteArray → Int → ByteArray → Int → D_api_Op → Option (D_api_Op × ByteArray × Int)
abbrev S2 : Type := Bool → Int → ByteArray → Int → Int → ByteArray → ByteArray → ByteArray → ByteArray → ByteArray → Int → ByteArray → Int → Bool → Int → Int → Int → ByteArray → ByteArray → Int → ByteArray → Int → D_api_Op → Option (D_api_Op × ByteArray × Int)
abbrev S3 : Type := Int → ByteArray → Int → Int → ByteArray → ByteArray → ByteArray → ByteArray → ByteArray → Int → ByteArray → Int → Bool → Int → Int → Int → ByteArray → ByteArray → Int → ByteArray → Int → D_api_Op → Option (D_api_Op × ByteArray × Int)
def sg0 (s : S0) : Seg := mkSg [1, 0, 1, 1, 1, 1, 1, 1, 1, 1] [] [0, 2, 5, 6, 46] [⟨[.d .str, .k (.ptr 0 0), .k (.ptr 1 0), .k (.ptr 2 0), .d .bool], [.box [.g (.int .i64), .g .str, .c .nilS, .c .nilS, .c .nilS, .g (.int .i64), .g (.int .i64), .g .str, .g .str, .g .str, .g .str, .g T_ops_reader, .c .nilS, .g T_api_Col, .g T_ops_reader, .c .nilS], .box [.g T_ops_reader], .box [.g (.int .i64), .g .str, .g (.sl T_api_Value), .g (.sl T_api_Value), .g (.sl T_api_Value), .g (.int .i64), .g (.int .i64), .g .str, .g .str, .g .str, .g .str, .g T_ops_reader, .c .nilS, .g T_api_Col, .g T_ops_reader, .c .nilS]], fun x y => s x.1 x.2.2.2.2.1 y.1.1 y.1.2.1 y.1.2.2.2.2.2.1 y.1.2.2.2.2.2.2.1 y.1.2.2.2.2.2.2.2.1 y.1.2.2.2.2.2.2.2.2.1 y.1.2.2.2.2.2.2.2.2.2.1 y.1.2.2.2.2.2.2.2.2.2.2.1 y.1.2.2.2.2.2.2.2.2.2.2.2.1.1 y.1.2.2.2.2.2.2.2.2.2.2.2.1.2.1 y.1.2.2.2.2.2.2.2.2.2.2.2.2.2.1.1 y.1.2.2.2.2.2.2.2.2.2.2.2.2.2.1.2.1 y.1.2.2.2.2.2.2.2.2.2.2.2.2.2.1.2.2.1 y.1.2.2.2.2.2.2.2.2.2.2.2.2.2.1.2.2.2.1.1 y.1.2.2.2.2.2.2.2.2.2.2.2.2.2.1.2.2.2.1.2.1 y.1.2.2.2.2.2.2.2.2.2.2.2.2.2.1.2.2.2.1.2.2.1 y.1.2.2.2.2.2.2.2.2.2.2.2.2.2.1.2.2.2.1.2.2.2.1 y.1.2.2.2.2.2.2.2.2.2.2.2.2.2.2.1.1 y.1.2.2.2.2.2.2.2.2.2.2.2.2.2.2.1.2.1 y.2.1.1.1 y.2.1.1.2.1 y.2.2.1.1 y.2.2.1.2.1 y.2.2.1.2.2.1 y.2.2.1.2.2.2.1 y.2.2.1.2.2.2.2.1 y.2.2.1.2.2.2.2.2.1 y.2.2.1.2.2.2.2.2.2.1 y.2.2.1.2.2.2.2.2.2.2.1 y.2.2.1.2.2.2.2.2.2.2.2.1 y.2.2.1.2.2.2.2.2.2.2.2.2.1 y.2.2.1.2.2.2.2.2.2.2.2.2.2.1 y.2.2.1.2.2.2.2.2.2.2.2.2.2.2.1.1 y.2.2.1.2.2.2.2.2.2.2.2.2.2.2.1.2.1 y.2.2.1.2.2.2.2.2.2.2.2.2.2.2.2.2.1.1 y.2.2.1.2.2.2.2.2.2.2.2.2.2.2.2.2.1.2.1 y.2.2.1.2.2.2.2.2.2.2.2.2.2.2.2.2.1.2.2.1 y.2.2.1.2.2.2.2.2.2.2.2.2.2.2.2.2.1.2.2.2.1.1 y.2.2.1.2.2.2.2.2.2.2.2.2.2.2.2.2.1.2.2.2.1.2.1 y.2.2.1.2.2.2.2.2.2.2.2.2.2.2.2.2.1.2.2.2.1.2.2.1 y.2.2.1.2.2.2.2.2.2.2.2.2.2.2.2.2.1.2.2.2.1.2.2.2.1 y.2.2.1.2.2.2.2.2.2.2.2.2.2.2.2.2.2.1.1 y.2.2.1.2.2.2.2.2.2.2.2.2.2.2.2.2.2.1.2.1⟩] e
def sg1 (s : S1) : Seg := mkSg [1, 1, 1, 1, 1, 1, 1, 1, 1] [.cellDat 6 13 (.sl .str), .cellDat 6 23 (.sl T_api_Col)] [0, 2, 5, 6] [⟨[.d .str, .k (.ptr 0 0), .k (.ptr 1 0), .k (.ptr 2 0)], [.box [.g (.int .i64), .g .str, .c .nilS, .c .nilS, .c .nilS, .g (.int .i64), .g (.int .i64), .g .str, .g .str, .g .str, .g .str, .g T_ops_reader, .c .nilS, .g T_api_Col, .g T_ops_reader, .c .nilS], .box [.g T_ops_reader], .box [.g T_api_Op]], fun x y => s x.1 y.1.1 y.1.2.1 y.1.2.2.2.2.2.1 y.1.2.2.2.2.2.2.1 y.1.2.2.2.2.2.2.2.1 y.1.2.2.2.2.2.2.2.2.1 y.1.2.2.2.2.2.2.2.2.2.1 y.1.2.2.2.2.2.2.2.2.2.2.1 y.1.2.2.2.2.2.2.2.2.2.2.2.1.1 y.1.2.2.2.2.2.2.2.2.2.2.2.1.2.1 y.1.2.2.2.2.2.2.2.2.2.2.2.2.2.1.1 y.1.2.2.2.2.2.2.2.2.2.2.2.2.2.1.2.1 y.1.2.2.2.2.2.2.2.2.2.2.2.2.2.1.2.2.1 y.1.2.2.2.2.2.2.2.2.2.2.2.2.2.1.2.2.2.1.1 y.1.2.2.2.2.2.2.2.2.2.2.2.2.2.1.2.2.2.1.2.1 y.1.2.2.2.2.2.2.2.2.2.2.2.2.2.1.2.2.2.1.2.2.1 y.1.2.2.2.2.2.2.2.2.2.2.2.2.2.1.2.2.2.1.2.2.2.1 y.1.2.2.2.2.2.2.2.2.2.2.2.2.2.2.1.1 y.1.2.2.2.2.2.2.2.2.2.2.2.2.2.2.1.2.1 y.2.1.1.1 y.2.1.1.2.1 y.2.2.1.1⟩] e
def sg2 (s : S2) : Seg := mkSg [1, 1, 2, 1, 0, 1, 1, 1, 1, 1, 1, 1, 1, 1] [] [2, 5, 6, 91] [⟨[.k (.ptr 0 0), .k (.ptr 1 0), .k (.ptr 2 0), .d .bool], [.box [.g (.int .i64), .g .str, .c .nilS, .c .nilS, .c .nilS, .g (.int .i64), .g (.int .i64), .g .str, .g .str, .g .str, .g .str, .g T_ops_reader, .c .nilS, .g T_api_Col, .g T_ops_reader, .c .nilS], .box [.g T_ops_reader], .box [.g T_api_Op]], fun x y => s x.2.2.2.1 y.1.1 y.1.2.1 y.1.2.2.2.2.2.1 y.1.2.2.2.2.2.2.1 y.1.2.2.2.2.2.2.2.1 y.1.2.2.2.2.2.2.2.2.1 y.1.2.2.2.2.2.2.2.2.2.1 y.1.2.2.2.2.2.2.2.2.2.2.1 y.1.2.2.2.2.2.2.2.2.2.2.2.1.1 y.1.2.2.2.2.2.2.2.2.2.2.2.1.2.1 y.1.2.2.2.2.2.2.2.2.2.2.2.2.2.1.1 y.1.2.2.2.2.2.2.2.2.2.2.2.2.2.1.2.1 y.1.2.2.2.2.2.2.2.2.2.2.2.2.2.1.2.2.1 y.1.2.2.2.2.2.2.2.2.2.2.2.2.2.1.2.2.2.1.1 y.1.2.2.2.2.2.2.2.2.2.2.2.2.2.1.2.2.2.1.2.1 y.1.2.2.2.2.2.2.2.2.2.2.2.2.2.1.2.2.2.1.2.2.1 y.1.2.2.2.2.2.2.2.2.2.2.2.2.2.1.2.2.2.1.2.2.2.1 y.1.2.2.2.2.2.2.2.2.2.2.2.2.2.2.1.1 y.1.2.2.2.2.2.2.2.2.2.2.2.2.2.2.1.2.1 y.2.1.1.1 y.2.1.1.2.1 y.2.2.1.1⟩] e
def sg3 (s : S3) : Seg := mkSg [1, 1, 1, 1, 1, 1, 1, 1, 1, 1] [] [2, 5, 6] [⟨[.k (.ptr 0 0), .k (.ptr 1 0), .k (.ptr 2 0)], [.box [.g (.int .i64), .g .str, .c .nilS, .c .nilS, .c .nilS, .g (.int .i64), .g (.int .i64), .g .str, .g .str, .g .str, .g .str, .g T_ops_reader, .c .nilS, .g T_api_Col, .g T_ops_reader, .c .nilS], .box [.g T_ops_reader], .box [.g T_api_Op]], fun x y => s y.1.1 y.1.2.1 y.1.2.2.2.2.2.1 y.1.2.2.2.2.2.2.1 y.1.2.2.2.2.2.2.2.1 y.1.2.2.2.2.2.2.2.2.1 y.1.2.2.2.2.2.2.2.2.2.1 y.1.2.2.2.2.2.2.2.2.2.2.1 y.1.2.2.2.2.2.2.2.2.2.2.2.1.1 y.1.2.2.2.2.2.2.2.2.2.2.2.1.2.1 y.1.2.2.2.2.2.2.2.2.2.2.2.2.2.1.1 y.1.2.2.2.2.2.2.2.2.2.2.2.2.2.1.2.1 y.1.2.2.2.2.2.2.2.2.2.2.2.2.2.1.2.2.1 y.1.2.2.2.2.2.2.2.2.2.2.2.2.2.1.2.2.2.1.1 y.1.2.2.2.2.2.2.2.2.2.2.2.2.2.1.2.2.2.1.2.1 y.1.2.2.2.2.2.2.2.2.2.2.2.2.2.1.2.2.2.1.2.2.1 y.1.2.2.2.2.2.2.2.2.2.2.2.2.2.1.2.2.2.1.2.2.2.1 y.1.2.2.2.2.2.2.2.2.2.2.2.2.2.2.1.1 y.1.2.2.2.2.2.2.2.2.2.2.2.2.2.2.1.2.1 y.2.1.1.1 y.2.1.1.2.1 y.2.2.1.1⟩] e
section
variable {β : Type} (g12 : ops_ReadChange.G) (g16 : ops_Put.G) (g39 : ops_reader_number.G) (g40 : ops_reader_text.G) (g42 : ops_reader_fail.G) (g51_0 : ops_lists.G0) (g51_1 : ops_lists.G1) (g54 : ops_reader_row.G) (s0 : S0) (s1 : S1) (s2 : S2) (s3 : S3)
noncomputable abbrev env : FEnv := mkEnv prog f18 [(12, ops_ReadChange.ct g12), (16, ops_Put.ct g16), (39, ops_reader_number.ct g39), (40, ops_reader_text.ct g40), (42, ops_reader_fail.ct g42), (51, ops_lists.ct g51_0 g51_1), (54, ops_reader_row.ct g54)] 0 [] [sg0 s0, sg1 s1, sg2 s2, sg3 s3]
def c (a0 : ByteArray) (ret : (D_api_Op × ByteArray × Int) → Option β) : Option β := ((g39 (1 : Int) (9 : Int) a0 (0 : Int)).bind fun r0 => ((g40 r0.2.1 r0.2.2).bind fun r1 => ((g51_1 r0.1 r1.1 (0 : Int) (0 : Int) (ByteArray.mk (List.toArray [])) (ByteArray.mk (List.toArray [])) (ByteArray.mk (List.toArray [])) (ByteArray.mk (List.toArray [])) (ByteArray.mk (List.toArray [])) (0 : Int) (ByteArray.mk (List.toArray [])) (0 : Int) false (0 : Int) (0 : Int) (0 : Int) (ByteArray.mk (List.toArray [])) (ByteArray.mk (List.toArray [])) (0 : Int)).bind fun r2 => ((g54 r1.2.1 r1.2.2).bind fun r3 => ((g54 r3.2.1 r3.2.2).bind fun r4 => ((g54 r4.2.1 r4.2.2).bind fun r5 => ((g39 (0 : Int) (64 : Int) r5.2.1 r5.2.2).bind fun r6 => (bif (r6.2.2 == (0 : Int)) then ((s0 a0 (r2.1 == (6 : Int)) (0 : Int) (ByteArray.mk (List.toArray [])) (0 : Int) (0 : Int) (ByteArray.mk (List.toArray [])) (ByteArray.mk (List.toArray [])) (ByteArray.mk (List.toArray [])) (ByteArray.mk (List.toArray [])) (ByteArray.mk (List.toArray [])) (0 : Int) (ByteArray.mk (List.toArray [])) (0 : Int) false (0 : Int) (0 : Int) (0 : Int) (ByteArray.mk (List.toArray [])) (ByteArray.mk (List.toArray [])) (0 : Int) r6.2.1 r6.2.2 r2.1 r2.2.1 r3.1 r4.1 r5.1 r6.1 r2.2.2.2.1 r2.2.2.2.2.1 r2.2.2.2.2.2.1 r2.2.2.2.2.2.2.1 r2.2.2.2.2.2.2.2.1 r2.2.2.2.2.2.2.2.2.1 r2.2.2.2.2.2.2.2.2.2.1 r2.2.2.2.2.2.2.2.2.2.2.1 r2.2.2.2.2.2.2.2.2.2.2.2.1 r2.2.2.2.2.2.2.2.2.2.2.2.2.1 r2.2.2.2.2.2.2.2.2.2.2.2.2.2.1 r2.2.2.2.2.2.2.2.2.2.2.2.2.2.2.1 r2.2.2.2.2.2.2.2.2.2.2.2.2.2.2.2.1 r2.2.2.2.2.2.2.2.2.2.2.2.2.2.2.2.2.1 r2.2.2.2.2.2.2.2.2.2.2.2.2.2.2.2.2.2.1 r2.2.2.2.2.2.2.2.2.2.2.2.2.2.2.2.2.2.2).bind ret) else ((s0 a0 false (0 : Int) (ByteArray.mk (List.toArray [])) (0 : Int) (0 : Int) (ByteArray.mk (List.toArray [])) (ByteArray.mk (List.toArray [])) (ByteArray.mk (List.toArray [])) (ByteArray.mk (List.toArray [])) (ByteArray.mk (List.toArray [])) (0 : Int) (ByteArray.mk (List.toArray [])) (0 : Int) false (0 : Int) (0 : Int) (0 : Int) (ByteArray.mk (List.toArray [])) (ByteArray.mk (List.toArray [])) (0 : Int) r6.2.1 r6.2.2 r2.1 r2.2.1 r3.1 r4.1 r5.1 r6.1 r2.2.2.2.1 r2.2.2.2.2.1 r2.2.2.2.2.2.1 r2.2.2.2.2.2.2.1 r2.2.2.2.2.2.2.2.1 r2.2.2.2.2.2.2.2.2.1 r2.2.2.2.2.2.2.2.2.2.1 r2.2.2.2.2.2.2.2.2.2.2.1 r2.2.2.2.2.2.2.2.2.2.2.2.1 r2.2.2.2.2.2.2.2.2.2.2.2.2.1 r2.2.2.2.2.2.2.2.2.2.2.2.2.2.1 r2.2.2.2.2.2.2.2.2.2.2.2.2.2.2.1 r2.2.2.2.2.2.2.2.2.2.2.2.2.2.2.2.1 r2.2.2.2.2.2.2.2.2.2.2.2.2.2.2.2.2.1 r2.2.2.2.2.2.2.2.2.2.2.2.2.2.2.2.2.2.1 r2.2.2.2.2.2.2.2.2.2.2.2.2.2.2.2.2.2.2).bind ret)))))))))
def s0c (x0 : ByteArray) (x1 : Bool) (x2 : Int) (x3 : ByteArray) (x4 : Int) (x5 : Int) (x6 : ByteArray) (x7 : ByteArray) (x8 : ByteArray) (x9 : ByteArray) (x10 : ByteArray) (x11 : Int) (x12 : ByteArray) (x13 : Int) (x14 : Bool) (x15 : Int) (x16 : Int) (x17 : Int) (x18 : ByteArray) (x19 : ByteArray) (x20 : Int) (x21 : ByteArray) (x22 : Int) (x23 : Int) (x24 : ByteArray) (x25 : List D_api_Value) (x26 : List D_api_Value) (x27 : List D_api_Value) (x28 : Int) (x29 : Int) (x30 : ByteArray) (x31 : ByteArray) (x32 : ByteArray) (x33 : ByteArray) (x34 : ByteArray) (x35 : Int) (x36 : ByteArray) (x37 : Int) (x38 : Bool) (x39 : Int) (x40 : Int) (x41 : Int) (x42 : ByteArray) (x43 : ByteArray) (x44 : Int) (ret : (D_api_Op × ByteArray × Int) → Option β) : Option β := (bif x1 then ((g12 x21).bind fun r0 => ((s1 x0 x2 x3 x4 x5 x6 x7 x8 x9 x10 x11 x12 x13 x14 x15 x16 x17 x18 x19 x20 r0.2.1 r0.2.2 (x23, (x24, (x25, (x26, (x27, (x28, (r0.1, ())))))))).bind ret)) else ((s1 x0 x2 x3 x4 x5 x6 x7 x8 x9 x10 x11 x12 x13 x14 x15 x16 x17 x18 x19 x20 x21 x22 (x23, (x24, (x25, (x26, (x27, (x28, ((x29, (x30, (x31, (x32, (x33, (x34, (x35, ([], ((x36, (x37, (x38, ((x39, (x40, (x41, (x42, ())))), ())))), ((x43, (x44, ([], ()))), ())))))))))), ())))))))).bind ret))
def s1c (x0 : ByteArray) (x1 : Int) (x2 : ByteArray) (x3 : Int) (x4 : Int) (x5 : ByteArray) (x6 : ByteArray) (x7 : ByteArray) (x8 : ByteArray) (x9 : ByteArray) (x10 : Int) (x11 : ByteArray) (x12 : Int) (x13 : Bool) (x14 : Int) (x15 : Int) (x16 : Int) (x17 : ByteArray) (x18 : ByteArray) (x19 : Int) (x20 : ByteArray) (x21 : Int) (x22 : D_api_Op) (ret : (D_api_Op × ByteArray × Int) → Option β) : Option β := (bif (x21 == (0 : Int)) then ((g16 x22).bind fun r0 => (bif (r0.2 != (0 : Int)) then ((s2 true x1 x2 x3 x4 x5 x6 x7 x8 x9 x10 x11 x12 x13 x14 x15 x16 x17 x18 x19 x20 x21 x22).bind ret) else (bif ((true && (decide ((0 : Int) ≤ (IntKind.wrap IntKind.i64 (((ByteArray.size x0) : Int) - ((ByteArray.size x20) : Int)))))) && (decide ((IntKind.wrap IntKind.i64 (((ByteArray.size x0) : Int) - ((ByteArray.size x20) : Int))) ≤ ((ByteArray.size x0) : Int)))) then ((s2 (!((ByteArray.toList r0.1) == (ByteArray.toList (ByteArray.extract x0 (0 : Nat) (Int.toNat (IntKind.wrap IntKind.i64 (((ByteArray.size x0) : Int) - ((ByteArray.size x20) : Int)))))))) x1 x2 x3 x4 x5 x6 x7 x8 x9 x10 x11 x12 x13 x14 x15 x16 x17 x18 x19 x20 x21 x22).bind ret) else none))) else ((s3 x1 x2 x3 x4 x5 x6 x7 x8 x9 x10 x11 x12 x13 x14 x15 x16 x17 x18 x19 x20 x21 x22).bind ret))
def s2c (x0 : Bool) (x1 : Int) (x2 : ByteArray) (x3 : Int) (x4 : Int) (x5 : ByteArray) (x6 : ByteArray) (x7 : ByteArray) (x8 : ByteArray) (x9 : ByteArray) (x10 : Int) (x11 : ByteArray) (x12 : Int) (x13 : Bool) (x14 : Int) (x15 : Int) (x16 : Int) (x17 : ByteArray) (x18 : ByteArray) (x19 : Int) (x20 : ByteArray) (x21 : Int) (x22 : D_api_Op) (ret : (D_api_Op × ByteArray × Int) → Option β) : Option β := (bif x0 then ((g42 (4 : Int) x20 x21).bind fun r0 => ((s3 x1 x2 x3 x4 x5 x6 x7 x8 x9 x10 x11 x12 x13 x14 x15 x16 x17 x18 x19 r0.1 r0.2 x22).bind ret)) else ((s3 x1 x2 x3 x4 x5 x6 x7 x8 x9 x10 x11 x12 x13 x14 x15 x16 x17 x18 x19 x20 x21 x22).bind ret))
def s3c (x0 : Int) (x1 : ByteArray) (x2 : Int) (x3 : Int) (x4 : ByteArray) (x5 : ByteArray) (x6 : ByteArray) (x7 : ByteArray) (x8 : ByteArray) (x9 : Int) (x10 : ByteArray) (x11 : Int) (x12 : Bool) (x13 : Int) (x14 : Int) (x15 : Int) (x16 : ByteArray) (x17 : ByteArray) (x18 : Int) (x19 : ByteArray) (x20 : Int) (x21 : D_api_Op) (ret : (D_api_Op × ByteArray × Int) → Option β) : Option β := (bif (x20 != (0 : Int)) then (ret (Z_api_Op, (ByteArray.mk (List.toArray [])), x20)) else (ret (x21, x19, (0 : Int))))
variable {g12} {g16} {g39} {g40} {g42} {g51_0} {g51_1} {g54} {s0} {s1} {s2} {s3}
theorem ev : EvA (env g12 g16 g39 g40 g42 g51_0 g51_1 g54 s0 s1 s2 s3) [] [0] e ⟨[.d .str], [], fun x y => c g39 g40 g51_1 g54 s0 x.1 some⟩ := fun x y => Eq.trans (b := c g39 g40 g51_1 g54 s0 x.1 fun r => some (e r)) (by kernel_rfl) (by simp only [c, bif_bind, sum_bind, oa, os, on, ofs])
theorem s0_ev : EvA (env g12 g16 g39 g40 g42 g51_0 g51_1 g54 s0 s1 s2 s3) [1, 0, 1, 1, 1, 1, 1, 1, 1, 1] [0, 2, 5, 6, 46] e ⟨[.d .str, .k (.ptr 0 0), .k (.ptr 1 0), .k (.ptr 2 0), .d .bool], [.box [.g (.int .i64), .g .str, .c .nilS, .c .nilS, .c .nilS, .g (.int .i64), .g (.int .i64), .g .str, .g .str, .g .str, .g .str, .g T_ops_reader, .c .nilS, .g T_api_Col, .g T_ops_reader, .c .nilS], .box [.g T_ops_reader], .box [.g (.int .i64), .g .str, .g (.sl T_api_Value), .g (.sl T_api_Value), .g (.sl T_api_Value), .g (.int .i64), .g (.int .i64), .g .str, .g .str, .g .str, .g .str, .g T_ops_reader, .c .nilS, .g T_api_Col, .g T_ops_reader, .c .nilS]], fun x y => s0c g12 s1 x.1 x.2.2.2.2.1 y.1.1 y.1.2.1 y.1.2.2.2.2.2.1 y.1.2.2.2.2.2.2.1 y.1.2.2.2.2.2.2.2.1 y.1.2.2.2.2.2.2.2.2.1 y.1.2.2.2.2.2.2.2.2.2.1 y.1.2.2.2.2.2.2.2.2.2.2.1 y.1.2.2.2.2.2.2.2.2.2.2.2.1.1 y.1.2.2.2.2.2.2.2.2.2.2.2.1.2.1 y.1.2.2.2.2.2.2.2.2.2.2.2.2.2.1.1 y.1.2.2.2.2.2.2.2.2.2.2.2.2.2.1.2.1 y.1.2.2.2.2.2.2.2.2.2.2.2.2.2.1.2.2.1 y.1.2.2.2.2.2.2.2.2.2.2.2.2.2.1.2.2.2.1.1 y.1.2.2.2.2.2.2.2.2.2.2.2.2.2.1.2.2.2.1.2.1 y.1.2.2.2.2.2.2.2.2.2.2.2.2.2.1.2.2.2.1.2.2.1 y.1.2.2.2.2.2.2.2.2.2.2.2.2.2.1.2.2.2.1.2.2.2.1 y.1.2.2.2.2.2.2.2.2.2.2.2.2.2.2.1.1 y.1.2.2.2.2.2.2.2.2.2.2.2.2.2.2.1.2.1 y.2.1.1.1 y.2.1.1.2.1 y.2.2.1.1 y.2.2.1.2.1 y.2.2.1.2.2.1 y.2.2.1.2.2.2.1 y.2.2.1.2.2.2.2.1 y.2.2.1.2.2.2.2.2.1 y.2.2.1.2.2.2.2.2.2.1 y.2.2.1.2.2.2.2.2.2.2.1 y.2.2.1.2.2.2.2.2.2.2.2.1 y.2.2.1.2.2.2.2.2.2.2.2.2.1 y.2.2.1.2.2.2.2.2.2.2.2.2.2.1 y.2.2.1.2.2.2.2.2.2.2.2.2.2.2.1.1 y.2.2.1.2.2.2.2.2.2.2.2.2.2.2.1.2.1 y.2.2.1.2.2.2.2.2.2.2.2.2.2.2.2.2.1.1 y.2.2.1.2.2.2.2.2.2.2.2.2.2.2.2.2.1.2.1 y.2.2.1.2.2.2.2.2.2.2.2.2.2.2.2.2.1.2.2.1 y.2.2.1.2.2.2.2.2.2.2.2.2.2.2.2.2.1.2.2.2.1.1 y.2.2.1.2.2.2.2.2.2.2.2.2.2.2.2.2.1.2.2.2.1.2.1 y.2.2.1.2.2.2.2.2.2.2.2.2.2.2.2.2.1.2.2.2.1.2.2.1 y.2.2.1.2.2.2.2.2.2.2.2.2.2.2.2.2.1.2.2.2.1.2.2.2.1 y.2.2.1.2.2.2.2.2.2.2.2.2.2.2.2.2.2.1.1 y.2.2.1.2.2.2.2.2.2.2.2.2.2.2.2.2.2.1.2.1 some⟩ := fun x y => Eq.trans (b := s0c g12 s1 x.1 x.2.2.2.2.1 y.1.1 y.1.2.1 y.1.2.2.2.2.2.1 y.1.2.2.2.2.2.2.1 y.1.2.2.2.2.2.2.2.1 y.1.2.2.2.2.2.2.2.2.1 y.1.2.2.2.2.2.2.2.2.2.1 y.1.2.2.2.2.2.2.2.2.2.2.1 y.1.2.2.2.2.2.2.2.2.2.2.2.1.1 y.1.2.2.2.2.2.2.2.2.2.2.2.1.2.1 y.1.2.2.2.2.2.2.2.2.2.2.2.2.2.1.1 y.1.2.2.2.2.2.2.2.2.2.2.2.2.2.1.2.1 y.1.2.2.2.2.2.2.2.2.2.2.2.2.2.1.2.2.1 y.1.2.2.2.2.2.2.2.2.2.2.2.2.2.1.2.2.2.1.1 y.1.2.2.2.2.2.2.2.2.2.2.2.2.2.1.2.2.2.1.2.1 y.1.2.2.2.2.2.2.2.2.2.2.2.2.2.1.2.2.2.1.2.2.1 y.1.2.2.2.2.2.2.2.2.2.2.2.2.2.1.2.2.2.1.2.2.2.1 y.1.2.2.2.2.2.2.2.2.2.2.2.2.2.2.1.1 y.1.2.2.2.2.2.2.2.2.2.2.2.2.2.2.1.2.1 y.2.1.1.1 y.2.1.1.2.1 y.2.2.1.1 y.2.2.1.2.1 y.2.2.1.2.2.1 y.2.2.1.2.2.2.1 y.2.2.1.2.2.2.2.1 y.2.2.1.2.2.2.2.2.1 y.2.2.1.2.2.2.2.2.2.1 y.2.2.1.2.2.2.2.2.2.2.1 y.2.2.1.2.2.2.2.2.2.2.2.1 y.2.2.1.2.2.2.2.2.2.2.2.2.1 y.2.2.1.2.2.2.2.2.2.2.2.2.2.1 y.2.2.1.2.2.2.2.2.2.2.2.2.2.2.1.1 y.2.2.1.2.2.2.2.2.2.2.2.2.2.2.1.2.1 y.2.2.1.2.2.2.2.2.2.2.2.2.2.2.2.2.1.1 y.2.2.1.2.2.2.2.2.2.2.2.2.2.2.2.2.1.2.1 y.2.2.1.2.2.2.2.2.2.2.2.2.2.2.2.2.1.2.2.1 y.2.2.1.2.2.2.2.2.2.2.2.2.2.2.2.2.1.2.2.2.1.1 y.2.2.1.2.2.2.2.2.2.2.2.2.2.2.2.2.1.2.2.2.1.2.1 y.2.2.1.2.2.2.2.2.2.2.2.2.2.2.2.2.1.2.2.2.1.2.2.1 y.2.2.1.2.2.2.2.2.2.2.2.2.2.2.2.2.1.2.2.2.1.2.2.2.1 y.2.2.1.2.2.2.2.2.2.2.2.2.2.2.2.2.2.1.1 y.2.2.1.2.2.2.2.2.2.2.2.2.2.2.2.2.2.1.2.1 fun r => some (e r)) (by kernel_rfl) (by simp only [s0c, bif_bind, sum_bind, oa, os, on, ofs])
theorem s1_ev : EvA (env g12 g16 g39 g40 g42 g51_0 g51_1 g54 s0 s1 s2 s3) [1, 1, 1, 1, 1, 1, 1, 1, 1] [0, 2, 5, 6] e ⟨[.d .str, .k (.ptr 0 0), .k (.ptr 1 0), .k (.ptr 2 0)], [.box [.g (.int .i64), .g .str, .c .nilS, .c .nilS, .c .nilS, .g (.int .i64), .g (.int .i64), .g .str, .g .str, .g .str, .g .str, .g T_ops_reader, .c .nilS, .g T_api_Col, .g T_ops_reader, .c .nilS], .box [.g T_ops_reader], .box [.g T_api_Op]], fun x y => s1c g16 s2 s3 x.1 y.1.1 y.1.2.1 y.1.2.2.2.2.2.1 y.1.2.2.2.2.2.2.1 y.1.2.2.2.2.2.2.2.1 y.1.2.2.2.2.2.2.2.2.1 y.1.2.2.2.2.2.2.2.2.2.1 y.1.2.2.2.2.2.2.2.2.2.2.1 y.1.2.2.2.2.2.2.2.2.2.2.2.1.1 y.1.2.2.2.2.2.2.2.2.2.2.2.1.2.1 y.1.2.2.2.2.2.2.2.2.2.2.2.2.2.1.1 y.1.2.2.2.2.2.2.2.2.2.2.2.2.2.1.2.1 y.1.2.2.2.2.2.2.2.2.2.2.2.2.2.1.2.2.1 y.1.2.2.2.2.2.2.2.2.2.2.2.2.2.1.2.2.2.1.1 y.1.2.2.2.2.2.2.2.2.2.2.2.2.2.1.2.2.2.1.2.1 y.1.2.2.2.2.2.2.2.2.2.2.2.2.2.1.2.2.2.1.2.2.1 y.1.2.2.2.2.2.2.2.2.2.2.2.2.2.1.2.2.2.1.2.2.2.1 y.1.2.2.2.2.2.2.2.2.2.2.2.2.2.2.1.1 y.1.2.2.2.2.2.2.2.2.2.2.2.2.2.2.1.2.1 y.2.1.1.1 y.2.1.1.2.1 y.2.2.1.1 some⟩ := fun x y => Eq.trans (b := s1c g16 s2 s3 x.1 y.1.1 y.1.2.1 y.1.2.2.2.2.2.1 y.1.2.2.2.2.2.2.1 y.1.2.2.2.2.2.2.2.1 y.1.2.2.2.2.2.2.2.2.1 y.1.2.2.2.2.2.2.2.2.2.1 y.1.2.2.2.2.2.2.2.2.2.2.1 y.1.2.2.2.2.2.2.2.2.2.2.2.1.1 y.1.2.2.2.2.2.2.2.2.2.2.2.1.2.1 y.1.2.2.2.2.2.2.2.2.2.2.2.2.2.1.1 y.1.2.2.2.2.2.2.2.2.2.2.2.2.2.1.2.1 y.1.2.2.2.2.2.2.2.2.2.2.2.2.2.1.2.2.1 y.1.2.2.2.2.2.2.2.2.2.2.2.2.2.1.2.2.2.1.1 y.1.2.2.2.2.2.2.2.2.2.2.2.2.2.1.2.2.2.1.2.1 y.1.2.2.2.2.2.2.2.2.2.2.2.2.2.1.2.2.2.1.2.2.1 y.1.2.2.2.2.2.2.2.2.2.2.2.2.2.1.2.2.2.1.2.2.2.1 y.1.2.2.2.2.2.2.2.2.2.2.2.2.2.2.1.1 y.1.2.2.2.2.2.2.2.2.2.2.2.2.2.2.1.2.1 y.2.1.1.1 y.2.1.1.2.1 y.2.2.1.1 fun r => some (e r)) (by kernel_rfl) (by simp only [s1c, bif_bind, sum_bind, oa, os, on, ofs])
theorem s2_ev : EvA (env g12 g16 g39 g40 g42 g51_0 g51_1 g54 s0 s1 s2 s3) [1, 1, 2, 1, 0, 1, 1, 1, 1, 1, 1, 1, 1, 1] [2, 5, 6, 91] e ⟨[.k (.ptr 0 0), .k (.ptr 1 0), .k (.ptr 2 0), .d .bool], [.box [.g (.int .i64), .g .str, .c .nilS, .c .nilS, .c .nilS, .g (.int .i64), .g (.int .i64), .g .str, .g .str, .g .str, .g .str, .g T_ops_reader, .c .nilS, .g T_api_Col, .g T_ops_reader, .c .nilS], .box [.g T_ops_reader], .box [.g T_api_Op]], fun x y => s2c g42 s3 x.2.2.2.1 y.1.1 y.1.2.1 y.1.2.2.2.2.2.1 y.1.2.2.2.2.2.2.1 y.1.2.2.2.2.2.2.2.1 y.1.2.2.2.2.2.2.2.2.1 y.1.2.2.2.2.2.2.2.2.2.1 y.1.2.2.2.2.2.2.2.2.2.2.1 y.1.2.2.2.2.2.2.2.2.2.2.2.1.1 y.1.2.2.2.2.2.2.2.2.2.2.2.1.2.1 y.1.2.2.2.2.2.2.2.2.2.2.2.2.2.1.1 y.1.2.2.2.2.2.2.2.2.2.2.2.2.2.1.2.1 y.1.2.2.2.2.2.2.2.2.2.2.2.2.2.1.2.2.1 y.1.2.2.2.2.2.2.2.2.2.2.2.2.2.1.2.2.2.1.1 y.1.2.2.2.2.2.2.2.2.2.2.2.2.2.1.2.2.2.1.2.1 y.1.2.2.2.2.2.2.2.2.2.2.2.2.2.1.2.2.2.1.2.2.1 y.1.2.2.2.2.2.2.2.2.2.2.2.2.2.1.2.2.2.1.2.2.2.1 y.1.2.2.2.2.2.2.2.2.2.2.2.2.2.2.1.1 y.1.2.2.2.2.2.2.2.2.2.2.2.2.2.2.1.2.1 y.2.1.1.1 y.2.1.1.2.1 y.2.2.1.1 some⟩ := fun x y => Eq.trans (b := s2c g42 s3 x.2.2.2.1 y.1.1 y.1.2.1 y.1.2.2.2.2.2.1 y.1.2.2.2.2.2.2.1 y.1.2.2.2.2.2.2.2.1 y.1.2.2.2.2.2.2.2.2.1 y.1.2.2.2.2.2.2.2.2.2.1 y.1.2.2.2.2.2.2.2.2.2.2.1 y.1.2.2.2.2.2.2.2.2.2.2.2.1.1 y.1.2.2.2.2.2.2.2.2.2.2.2.1.2.1 y.1.2.2.2.2.2.2.2.2.2.2.2.2.2.1.1 y.1.2.2.2.2.2.2.2.2.2.2.2.2.2.1.2.1 y.1.2.2.2.2.2.2.2.2.2.2.2.2.2.1.2.2.1 y.1.2.2.2.2.2.2.2.2.2.2.2.2.2.1.2.2.2.1.1 y.1.2.2.2.2.2.2.2.2.2.2.2.2.2.1.2.2.2.1.2.1 y.1.2.2.2.2.2.2.2.2.2.2.2.2.2.1.2.2.2.1.2.2.1 y.1.2.2.2.2.2.2.2.2.2.2.2.2.2.1.2.2.2.1.2.2.2.1 y.1.2.2.2.2.2.2.2.2.2.2.2.2.2.2.1.1 y.1.2.2.2.2.2.2.2.2.2.2.2.2.2.2.1.2.1 y.2.1.1.1 y.2.1.1.2.1 y.2.2.1.1 fun r => some (e r)) (by kernel_rfl) (by simp only [s2c, bif_bind, sum_bind, oa, os, on, ofs])
theorem s3_ev : EvA (env g12 g16 g39 g40 g42 g51_0 g51_1 g54 s0 s1 s2 s3) [1, 1, 1, 1, 1, 1, 1, 1, 1, 1] [2, 5, 6] e ⟨[.k (.ptr 0 0), .k (.ptr 1 0), .k (.ptr 2 0)], [.box [.g (.int .i64), .g .str, .c .nilS, .c .nilS, .c .nilS, .g (.int .i64), .g (.int .i64), .g .str, .g .str, .g .str, .g .str, .g T_ops_reader, .c .nilS, .g T_api_Col, .g T_ops_reader, .c .nilS], .box [.g T_ops_reader], .box [.g T_api_Op]], fun x y => s3c y.1.1 y.1.2.1 y.1.2.2.2.2.2.1 y.1.2.2.2.2.2.2.1 y.1.2.2.2.2.2.2.2.1 y.1.2.2.2.2.2.2.2.2.1 y.1.2.2.2.2.2.2.2.2.2.1 y.1.2.2.2.2.2.2.2.2.2.2.1 y.1.2.2.2.2.2.2.2.2.2.2.2.1.1 y.1.2.2.2.2.2.2.2.2.2.2.2.1.2.1 y.1.2.2.2.2.2.2.2.2.2.2.2.2.2.1.1 y.1.2.2.2.2.2.2.2.2.2.2.2.2.2.1.2.1 y.1.2.2.2.2.2.2.2.2.2.2.2.2.2.1.2.2.1 y.1.2.2.2.2.2.2.2.2.2.2.2.2.2.1.2.2.2.1.1 y.1.2.2.2.2.2.2.2.2.2.2.2.2.2.1.2.2.2.1.2.1 y.1.2.2.2.2.2.2.2.2.2.2.2.2.2.1.2.2.2.1.2.2.1 y.1.2.2.2.2.2.2.2.2.2.2.2.2.2.1.2.2.2.1.2.2.2.1 y.1.2.2.2.2.2.2.2.2.2.2.2.2.2.2.1.1 y.1.2.2.2.2.2.2.2.2.2.2.2.2.2.2.1.2.1 y.2.1.1.1 y.2.1.1.2.1 y.2.2.1.1 some⟩ := fun x y => Eq.trans (b := s3c y.1.1 y.1.2.1 y.1.2.2.2.2.2.1 y.1.2.2.2.2.2.2.1 y.1.2.2.2.2.2.2.2.1 y.1.2.2.2.2.2.2.2.2.1 y.1.2.2.2.2.2.2.2.2.2.1 y.1.2.2.2.2.2.2.2.2.2.2.1 y.1.2.2.2.2.2.2.2.2.2.2.2.1.1 y.1.2.2.2.2.2.2.2.2.2.2.2.1.2.1 y.1.2.2.2.2.2.2.2.2.2.2.2.2.2.1.1 y.1.2.2.2.2.2.2.2.2.2.2.2.2.2.1.2.1 y.1.2.2.2.2.2.2.2.2.2.2.2.2.2.1.2.2.1 y.1.2.2.2.2.2.2.2.2.2.2.2.2.2.1.2.2.2.1.1 y.1.2.2.2.2.2.2.2.2.2.2.2.2.2.1.2.2.2.1.2.1 y.1.2.2.2.2.2.2.2.2.2.2.2.2.2.1.2.2.2.1.2.2.1 y.1.2.2.2.2.2.2.2.2.2.2.2.2.2.1.2.2.2.1.2.2.2.1 y.1.2.2.2.2.2.2.2.2.2.2.2.2.2.2.1.1 y.1.2.2.2.2.2.2.2.2.2.2.2.2.2.2.1.2.1 y.2.1.1.1 y.2.1.1.2.1 y.2.2.1.1 fun r => some (e r)) (by kernel_rfl) (by simp only [s3c, bif_bind, sum_bind, oa, os, on, ofs])
end
mutual
def s0 : Nat → ByteArray → Bool → Int → ByteArray → Int → Int → ByteArray → ByteArray → ByteArray → ByteArray → ByteArray → Int → ByteArray → Int → Bool → Int → Int → Int → ByteArray → ByteArray → Int → ByteArray → Int → Int → ByteArray → (List D_api_Value) → (List D_api_Value) → (List D_api_Value) → Int → Int → ByteArray → ByteArray → ByteArray → ByteArray → ByteArray → Int → ByteArray → Int → Bool → Int → Int → Int → ByteArray → ByteArray → Int → Option (D_api_Op × ByteArray × Int)
  | 0, _, _, _, _, _, _, _, _, _, _, _, _, _, _, _, _, _, _, _, _, _, _, _, _, _, _, _, _, _, _, _, _, _, _, _, _, _, _, _, _, _, _, _, _, _ => none
  | k + 1, x0, x1, x2, x3, x4, x5, x6, x7, x8, x9, x10, x11, x12, x13, x14, x15, x16, x17, x18, x19, x20, x21, x22, x23, x24, x25, x26, x27, x28, x29, x30, x31, x32, x33, x34, x35, x36, x37, x38, x39, x40, x41, x42, x43, x44 => s0c (ops_ReadChange.f k) (s1 k) x0 x1 x2 x3 x4 x5 x6 x7 x8 x9 x10 x11 x12 x13 x14 x15 x16 x17 x18 x19 x20 x21 x22 x23 x24 x25 x26 x27 x28 x29 x30 x31 x32 x33 x34 x35 x36 x37 x38 x39 x40 x41 x42 x43 x44 some
def s1 : Nat → ByteArray → Int → ByteArray → Int → Int → ByteArray → ByteArray → ByteArray → ByteArray → ByteArray → Int → ByteArray → Int → Bool → Int → Int → Int → ByteArray → ByteArray → Int → ByteArray → Int → D_api_Op → Option (D_api_Op × ByteArray × Int)
  | 0, _, _, _, _, _, _, _, _, _, _, _, _, _, _, _, _, _, _, _, _, _, _, _ => none
  | k + 1, x0, x1, x2, x3, x4, x5, x6, x7, x8, x9, x10, x11, x12, x13, x14, x15, x16, x17, x18, x19, x20, x21, x22 => s1c (ops_Put.f k) (s2 k) (s3 k) x0 x1 x2 x3 x4 x5 x6 x7 x8 x9 x10 x11 x12 x13 x14 x15 x16 x17 x18 x19 x20 x21 x22 some
def s2 : Nat → Bool → Int → ByteArray → Int → Int → ByteArray → ByteArray → ByteArray → ByteArray → ByteArray → Int → ByteArray → Int → Bool → Int → Int → Int → ByteArray → ByteArray → Int → ByteArray → Int → D_api_Op → Option (D_api_Op × ByteArray × Int)
  | 0, _, _, _, _, _, _, _, _, _, _, _, _, _, _, _, _, _, _, _, _, _, _, _ => none
  | k + 1, x0, x1, x2, x3, x4, x5, x6, x7, x8, x9, x10, x11, x12, x13, x14, x15, x16, x17, x18, x19, x20, x21, x22 => s2c (ops_reader_fail.f k) (s3 k) x0 x1 x2 x3 x4 x5 x6 x7 x8 x9 x10 x11 x12 x13 x14 x15 x16 x17 x18 x19 x20 x21 x22 some
def s3 : Nat → Int → ByteArray → Int → Int → ByteArray → ByteArray → ByteArray → ByteArray → ByteArray → Int → ByteArray → Int → Bool → Int → Int → Int → ByteArray → ByteArray → Int → ByteArray → Int → D_api_Op → Option (D_api_Op × ByteArray × Int)
  | 0, _, _, _, _, _, _, _, _, _, _, _, _, _, _, _, _, _, _, _, _, _, _ => none
  | k + 1, x0, x1, x2, x3, x4, x5, x6, x7, x8, x9, x10, x11, x12, x13, x14, x15, x16, x17, x18, x19, x20, x21 => s3c  x0 x1 x2 x3 x4 x5 x6 x7 x8 x9 x10 x11 x12 x13 x14 x15 x16 x17 x18 x19 x20 x21 some
end
def f (k : Nat) (a0 : ByteArray) : Option (D_api_Op × ByteArray × Int) := c (ops_reader_number.f k) (ops_reader_text.f k) (ops_lists.f1 k) (ops_reader_row.f k) (s0 k) a0 some
noncomputable abbrev E (k : Nat) : FEnv := env (ops_ReadChange.f k) (ops_Put.f k) (ops_reader_number.f k) (ops_reader_text.f k) (ops_reader_fail.f k) (ops_lists.f0 k) (ops_lists.f1 k) (ops_reader_row.f k) (s0 k) (s1 k) (s2 k) (s3 k)
theorem hE (k : Nat) : EnvOK (E k).toEnv := ctsOK (L.cons (ops_ReadChange.ok k) (L.cons (ops_Put.ok k) (L.cons (ops_reader_number.ok k) (L.cons (ops_reader_text.ok k) (L.cons (ops_reader_fail.ok k) (L.cons (ops_lists.ok k) (L.cons (ops_reader_row.ok k) L.nil)))))))
theorem segs_ok : ∀ k, ∀ s ∈ [sg0 (s0 k), sg1 (s1 k), sg2 (s2 k), sg3 (s3 k)], SegB prog f18 0 s
  | 0 => (L.cons (sg_none (L.cons (fun _ _ => rfl) L.nil)) (L.cons (sg_none (L.cons (fun _ _ => rfl) L.nil)) (L.cons (sg_none (L.cons (fun _ _ => rfl) L.nil)) (L.cons (sg_none (L.cons (fun _ _ => rfl) L.nil)) L.nil))))
  | k + 1 => (L.cons (sg_ok (hE k) (segs_ok k) (L.cons s0_ev L.nil)) (L.cons (sg_ok (hE k) (segs_ok k) (L.cons s1_ev L.nil)) (L.cons (sg_ok (hE k) (segs_ok k) (L.cons s2_ev L.nil)) (L.cons (sg_ok (hE k) (segs_ok k) (L.cons s3_ev L.nil)) L.nil))))
theorem ok (k : Nat) : CtOK prog 18 (ct (f k)) := fn_ok func18 rfl (by decide) (hE k) (segs_ok k) (L.cons ev L.nil)
end ops_Read
namespace values_Same
def e (r : Bool) : Res := ⟨.v (.one (.d .bool r)), []⟩
abbrev G : Type := Int → Int → Int → ByteArray → Int → Int → Int → ByteArray → Option Bool
def ct (g : G) : Ct := mkCt 0 [] [⟨[.s T_api_Value, .s T_api_Value], [], fun x y => g x.1.1.1 x.1.1.2.1 x.1.1.2.2.1 x.1.1.2.2.2.1 x.2.1.1.1 x.2.1.1.2.1 x.2.1.1.2.2.1 x.2.1.1.2.2.2.1⟩] e
section
variable {β : Type} 
noncomputable abbrev env : FEnv := mkEnv prog f82 [] 0 [] []
def c (a0 : Int) (a1 : Int) (a2 : Int) (a3 : ByteArray) (a4 : Int) (a5 : Int) (a6 : Int) (a7 : ByteArray) (ret : Bool → Option β) : Option β := (ret (((a0 == a4) && ((a1 == a5) && ((a2 == a6) && (((ByteArray.toList a3) == (ByteArray.toList a7)) && true))))))
theorem ev : EvA (env) [] [0, 1] e ⟨[.s T_api_Value, .s T_api_Value], [], fun x y => c x.1.1.1 x.1.1.2.1 x.1.1.2.2.1 x.1.1.2.2.2.1 x.2.1.1.1 x.2.1.1.2.1 x.2.1.1.2.2.1 x.2.1.1.2.2.2.1 some⟩ := fun x y => Eq.trans (b := c x.1.1.1 x.1.1.2.1 x.1.1.2.2.1 x.1.1.2.2.2.1 x.2.1.1.1 x.2.1.1.2.1 x.2.1.1.2.2.1 x.2.1.1.2.2.2.1 fun r => some (e r)) (by kernel_rfl) (by simp only [c, bif_bind, sum_bind, oa, os, on, ofs])
end
def f (k : Nat) (a0 : Int) (a1 : Int) (a2 : Int) (a3 : ByteArray) (a4 : Int) (a5 : Int) (a6 : Int) (a7 : ByteArray) : Option Bool := c  a0 a1 a2 a3 a4 a5 a6 a7 some
noncomputable abbrev E (k : Nat) : FEnv := env  
theorem hE (k : Nat) : EnvOK (E k).toEnv := ctsOK L.nil
theorem ok (k : Nat) : CtOK prog 82 (ct (f k)) := fn_ok func82 rfl (by decide) (hE k) L.nil (L.cons ev L.nil)
end values_Same
namespace api_Value_81
def e (r : Int) : Res := ⟨.v (.one (.d (.int .i64) r)), []⟩
abbrev G : Type := (List D_api_Value) → (List D_api_Value) → Option Int
def ct (g : G) : Ct := mkCt 0 [] [⟨[.d (.sl T_api_Value), .d (.sl T_api_Value), .k (.fn 82 [])], [], fun x y => g x.1 x.2.1⟩] e
abbrev S0 : Type := (List D_api_Value) → (List D_api_Value) → Int → Option Int
abbrev S1 : Type := (List D_api_Value) → (List D_api_Value) → Int → Bool → Option Int
abbrev S2 : Type := (List D_api_Value) → (List D_api_Value) → Int → Option Int
def sg0 (s : S0) : Seg := mkSg [4, 0, 1, 1] [] [0, 1, 2, 7] [⟨[.d (.sl T_api_Value), .d (.sl T_api_Value), .k (.fn 82 []), .d (.int .i64)], [], fun x y => s x.1 x.2.1 x.2.2.2.1⟩] e
def sg1 (s : S1) : Seg := mkSg [1, 0, 5, 4, 0, 1, 1] [] [0, 1, 2, 7, 29] [⟨[.d (.sl T_api_Value), .d (.sl T_api_Value), .k (.fn 82 []), .d (.int .i64), .d .bool], [], fun x y => s x.1 x.2.1 x.2.2.2.1 x.2.2.2.2.1⟩] e
def sg2 (s : S2) : Seg := mkSg [1, 5, 4, 0, 1, 1] [] [0, 1, 2, 7] [⟨[.d (.sl T_api_Value), .d (.sl T_api_Value), .k (.fn 82 []), .d (.int .i64)], [], fun x y => s x.1 x.2.1 x.2.2.2.1⟩] e
section
variable {β : Type} (g82 : values_Same.G) (s0 : S0) (s1 : S1) (s2 : S2)
noncomputable abbrev env : FEnv := mkEnv prog f81 [(82, values_Same.ct g82)] 0 [] [sg0 s0, sg1 s1, sg2 s2]
def c (a0 : List D_api_Value) (a1 : List D_api_Value) (ret : Int → Option β) : Option β := ((s0 a0 a1 (0 : Int)).bind ret)
def s0c (x0 : List D_api_Value) (x1 : List D_api_Value) (x2 : Int) (ret : Int → Option β) : Option β := (bif (decide (x2 < ((List.length x0) : Int))) then (bif (decide (x2 < ((List.length x1) : Int))) then (bif ((decide ((0 : Int) ≤ x2)) && (decide (x2 < ((List.length x0) : Int)))) then (bif ((decide ((0 : Int) ≤ x2)) && (decide (x2 < ((List.length x1) : Int)))) then ((g82 (elem T_api_Value x0 x2).1 (elem T_api_Value x0 x2).2.1 (elem T_api_Value x0 x2).2.2.1 (elem T_api_Value x0 x2).2.2.2.1 (elem T_api_Value x1 x2).1 (elem T_api_Value x1 x2).2.1 (elem T_api_Value x1 x2).2.2.1 (elem T_api_Value x1 x2).2.2.2.1).bind fun r0 => ((s1 x0 x1 x2 r0).bind ret)) else none) else none) else ((s1 x0 x1 x2 false).bind ret)) else ((s1 x0 x1 x2 false).bind ret))
def s1c (x0 : List D_api_Value) (x1 : List D_api_Value) (x2 : Int) (x3 : Bool) (ret : Int → Option β) : Option β := (bif x3 then ((s2 x0 x1 x2).bind ret) else (ret (x2)))
def s2c (x0 : List D_api_Value) (x1 : List D_api_Value) (x2 : Int) (ret : Int → Option β) : Option β := ((s0 x0 x1 (IntKind.wrap IntKind.i64 (x2 + (1 : Int)))).bind ret)
variable {g82} {s0} {s1} {s2}
theorem ev : EvA (env g82 s0 s1 s2) [] [0, 1, 2] e ⟨[.d (.sl T_api_Value), .d (.sl T_api_Value), .k (.fn 82 [])], [], fun x y => c s0 x.1 x.2.1 some⟩ := fun x y => Eq.trans (b := c s0 x.1 x.2.1 fun r => some (e r)) (by kernel_rfl) (by simp only [c, bif_bind, sum_bind, oa, os, on, ofs])
theorem s0_ev : EvA (env g82 s0 s1 s2) [4, 0, 1, 1] [0, 1, 2, 7] e ⟨[.d (.sl T_api_Value), .d (.sl T_api_Value), .k (.fn 82 []), .d (.int .i64)], [], fun x y => s0c g82 s1 x.1 x.2.1 x.2.2.2.1 some⟩ := fun x y => Eq.trans (b := s0c g82 s1 x.1 x.2.1 x.2.2.2.1 fun r => some (e r)) (by kernel_rfl) (by simp only [s0c, bif_bind, sum_bind, oa, os, on, ofs])
theorem s1_ev : EvA (env g82 s0 s1 s2) [1, 0, 5, 4, 0, 1, 1] [0, 1, 2, 7, 29] e ⟨[.d (.sl T_api_Value), .d (.sl T_api_Value), .k (.fn 82 []), .d (.int .i64), .d .bool], [], fun x y => s1c s2 x.1 x.2.1 x.2.2.2.1 x.2.2.2.2.1 some⟩ := fun x y => Eq.trans (b := s1c s2 x.1 x.2.1 x.2.2.2.1 x.2.2.2.2.1 fun r => some (e r)) (by kernel_rfl) (by simp only [s1c, bif_bind, sum_bind, oa, os, on, ofs])
theorem s2_ev : EvA (env g82 s0 s1 s2) [1, 5, 4, 0, 1, 1] [0, 1, 2, 7] e ⟨[.d (.sl T_api_Value), .d (.sl T_api_Value), .k (.fn 82 []), .d (.int .i64)], [], fun x y => s2c s0 x.1 x.2.1 x.2.2.2.1 some⟩ := fun x y => Eq.trans (b := s2c s0 x.1 x.2.1 x.2.2.2.1 fun r => some (e r)) (by kernel_rfl) (by simp only [s2c, bif_bind, sum_bind, oa, os, on, ofs])
end
mutual
def s0 : Nat → (List D_api_Value) → (List D_api_Value) → Int → Option Int
  | 0, _, _, _ => none
  | k + 1, x0, x1, x2 => s0c (values_Same.f k) (s1 k) x0 x1 x2 some
def s1 : Nat → (List D_api_Value) → (List D_api_Value) → Int → Bool → Option Int
  | 0, _, _, _, _ => none
  | k + 1, x0, x1, x2, x3 => s1c (s2 k) x0 x1 x2 x3 some
def s2 : Nat → (List D_api_Value) → (List D_api_Value) → Int → Option Int
  | 0, _, _, _ => none
  | k + 1, x0, x1, x2 => s2c (s0 k) x0 x1 x2 some
end
def f (k : Nat) (a0 : List D_api_Value) (a1 : List D_api_Value) : Option Int := c (s0 k) a0 a1 some
noncomputable abbrev E (k : Nat) : FEnv := env (values_Same.f k) (s0 k) (s1 k) (s2 k)
theorem hE (k : Nat) : EnvOK (E k).toEnv := ctsOK (L.cons (values_Same.ok k) L.nil)
theorem segs_ok : ∀ k, ∀ s ∈ [sg0 (s0 k), sg1 (s1 k), sg2 (s2 k)], SegB prog f81 0 s
  | 0 => (L.cons (sg_none (L.cons (fun _ _ => rfl) L.nil)) (L.cons (sg_none (L.cons (fun _ _ => rfl) L.nil)) (L.cons (sg_none (L.cons (fun _ _ => rfl) L.nil)) L.nil)))
  | k + 1 => (L.cons (sg_ok (hE k) (segs_ok k) (L.cons s0_ev L.nil)) (L.cons (sg_ok (hE k) (segs_ok k) (L.cons s1_ev L.nil)) (L.cons (sg_ok (hE k) (segs_ok k) (L.cons s2_ev L.nil)) L.nil)))
theorem ok (k : Nat) : CtOK prog 81 (ct (f k)) := fn_ok func81 rfl (by decide) (hE k) (segs_ok k) (L.cons ev L.nil)
end api_Value_81
namespace rows_Same
def e (r : Bool) : Res := ⟨.v (.one (.d .bool r)), []⟩
abbrev G : Type := (List D_api_Value) → (List D_api_Value) → Option Bool
def ct (g : G) : Ct := mkCt 0 [] [⟨[.d (.sl T_api_Value), .d (.sl T_api_Value)], [], fun x y => g x.1 x.2.1⟩] e
section
variable {β : Type} (g81 : api_Value_81.G) (g82 : values_Same.G)
noncomputable abbrev env : FEnv := mkEnv prog f58 [(81, api_Value_81.ct g81), (82, values_Same.ct g82)] 0 [] []
def c (a0 : List D_api_Value) (a1 : List D_api_Value) (ret : Bool → Option β) : Option β := (bif (((List.length a0) : Int) == ((List.length a1) : Int)) then ((g81 a0 a1).bind fun r0 => (ret ((r0 == ((List.length a0) : Int))))) else (ret (false)))
variable {g81} {g82}
theorem ev : EvA (env g81 g82) [] [0, 1] e ⟨[.d (.sl T_api_Value), .d (.sl T_api_Value)], [], fun x y => c g81 x.1 x.2.1 some⟩ := fun x y => Eq.trans (b := c g81 x.1 x.2.1 fun r => some (e r)) (by kernel_rfl) (by simp only [c, bif_bind, sum_bind, oa, os, on, ofs])
end
def f (k : Nat) (a0 : List D_api_Value) (a1 : List D_api_Value) : Option Bool := c (api_Value_81.f k) a0 a1 some
noncomputable abbrev E (k : Nat) : FEnv := env (api_Value_81.f k) (values_Same.f k) 
theorem hE (k : Nat) : EnvOK (E k).toEnv := ctsOK (L.cons (api_Value_81.ok k) (L.cons (values_Same.ok k) L.nil))
theorem ok (k : Nat) : CtOK prog 58 (ct (f k)) := fn_ok func58 rfl (by decide) (hE k) L.nil (L.cons ev L.nil)
end rows_Same
namespace ops_Same
def e (r : Bool) : Res := ⟨.v (.one (.d .bool r)), []⟩
abbrev G : Type := D_api_Op → D_api_Op → Option Bool
def ct (g : G) : Ct := mkCt 0 [] [⟨[.s T_api_Op, .s T_api_Op], [], fun x y => g x.1.1 x.2.1.1⟩] e
abbrev S0 : Type := Bool → D_api_Op → D_api_Op → Option Bool
abbrev S1 : Type := D_api_Op → D_api_Op → Option Bool
def sg0 (s : S0) : Seg := mkSg [1, 0, 1] [] [2, 3, 51] [⟨[.k (.ptr 0 0), .k (.ptr 1 0), .d .bool], [.box [.g T_api_Op], .box [.g T_api_Op]], fun x y => s x.2.2.1 y.1.1 y.2.1.1⟩] e
def sg1 (s : S1) : Seg := mkSg [1, 1] [] [2, 3] [⟨[.k (.ptr 0 0), .k (.ptr 1 0)], [.box [.g T_api_Op], .box [.g T_api_Op]], fun x y => s y.1.1 y.2.1.1⟩] e
section
variable {β : Type} (g10 : ops_PutChange.G) (g58 : rows_Same.G) (s0 : S0) (s1 : S1)
noncomputable abbrev env : FEnv := mkEnv prog f21 [(10, ops_PutChange.ct g10), (58, rows_Same.ct g58)] 0 [] [sg0 s0, sg1 s1]
def c (a0 : D_api_Op) (a1 : D_api_Op) (ret : Bool → Option β) : Option β := (bif (a0.1 != a1.1) then ((s0 true a0 a1).bind ret) else (bif (!((ByteArray.toList a0.2.1) == (ByteArray.toList a1.2.1))) then ((s0 true a0 a1).bind ret) else (bif (a0.2.2.2.2.2.1 != a1.2.2.2.2.2.1) then ((s0 true a0 a1).bind ret) else ((g58 a0.2.2.1 a1.2.2.1).bind fun r0 => (bif (!r0) then ((s0 true a0 a1).bind ret) else ((g58 a0.2.2.2.1 a1.2.2.2.1).bind fun r1 => (bif (!r1) then ((s0 true a0 a1).bind ret) else ((g58 a0.2.2.2.2.1 a1.2.2.2.2.1).bind fun r2 => ((s0 (!r2) a0 a1).bind ret)))))))))
def s0c (x0 : Bool) (x1 : D_api_Op) (x2 : D_api_Op) (ret : Bool → Option β) : Option β := (bif x0 then (ret (false)) else ((s1 x1 x2).bind ret))
def s1c (x0 : D_api_Op) (x1 : D_api_Op) (ret : Bool → Option β) : Option β := (bif (x0.1 != (6 : Int)) then (ret (true)) else ((g10 x0.2.2.2.2.2.2.1).bind fun r0 => ((g10 x1.2.2.2.2.2.2.1).bind fun r1 => (bif (r0.2 == (0 : Int)) then (bif (r1.2 == (0 : Int)) then (ret (((ByteArray.toList r0.1) == (ByteArray.toList r1.1)))) else (ret (false))) else (ret (false))))))
variable {g10} {g58} {s0} {s1}
theorem ev : EvA (env g10 g58 s0 s1) [] [0, 1] e ⟨[.s T_api_Op, .s T_api_Op], [], fun x y => c g58 s0 x.1.1 x.2.1.1 some⟩ := fun x y => Eq.trans (b := c g58 s0 x.1.1 x.2.1.1 fun r => some (e r)) (by kernel_rfl) (by simp only [c, bif_bind, sum_bind, oa, os, on, ofs])
theorem s0_ev : EvA (env g10 g58 s0 s1) [1, 0, 1] [2, 3, 51] e ⟨[.k (.ptr 0 0), .k (.ptr 1 0), .d .bool], [.box [.g T_api_Op], .box [.g T_api_Op]], fun x y => s0c s1 x.2.2.1 y.1.1 y.2.1.1 some⟩ := fun x y => Eq.trans (b := s0c s1 x.2.2.1 y.1.1 y.2.1.1 fun r => some (e r)) (by kernel_rfl) (by simp only [s0c, bif_bind, sum_bind, oa, os, on, ofs])
theorem s1_ev : EvA (env g10 g58 s0 s1) [1, 1] [2, 3] e ⟨[.k (.ptr 0 0), .k (.ptr 1 0)], [.box [.g T_api_Op], .box [.g T_api_Op]], fun x y => s1c g10 y.1.1 y.2.1.1 some⟩ := fun x y => Eq.trans (b := s1c g10 y.1.1 y.2.1.1 fun r => some (e r)) (by kernel_rfl) (by simp only [s1c, bif_bind, sum_bind, oa, os, on, ofs])
end
mutual
def s0 : Nat → Bool → D_api_Op → D_api_Op → Option Bool
  | 0, _, _, _ => none
  | k + 1, x0, x1, x2 => s0c (s1 k) x0 x1 x2 some
def s1 : Nat → D_api_Op → D_api_Op → Option Bool
  | 0, _, _ => none
  | k + 1, x0, x1 => s1c (ops_PutChange.f k) x0 x1 some
end
def f (k : Nat) (a0 : D_api_Op) (a1 : D_api_Op) : Option Bool := c (rows_Same.f k) (s0 k) a0 a1 some
noncomputable abbrev E (k : Nat) : FEnv := env (ops_PutChange.f k) (rows_Same.f k) (s0 k) (s1 k)
theorem hE (k : Nat) : EnvOK (E k).toEnv := ctsOK (L.cons (ops_PutChange.ok k) (L.cons (rows_Same.ok k) L.nil))
theorem segs_ok : ∀ k, ∀ s ∈ [sg0 (s0 k), sg1 (s1 k)], SegB prog f21 0 s
  | 0 => (L.cons (sg_none (L.cons (fun _ _ => rfl) L.nil)) (L.cons (sg_none (L.cons (fun _ _ => rfl) L.nil)) L.nil))
  | k + 1 => (L.cons (sg_ok (hE k) (segs_ok k) (L.cons s0_ev L.nil)) (L.cons (sg_ok (hE k) (segs_ok k) (L.cons s1_ev L.nil)) L.nil))
theorem ok (k : Nat) : CtOK prog 21 (ct (f k)) := fn_ok func21 rfl (by decide) (hE k) (segs_ok k) (L.cons ev L.nil)
end ops_Same
namespace api_Value_59
def e (r : Bool) : Res := ⟨.v (.one (.d .bool r)), []⟩
abbrev G : Type := (List (List D_api_Value)) → (List (List D_api_Value)) → Option Bool
def ct (g : G) : Ct := mkCt 0 [] [⟨[.d (.sl (.sl T_api_Value)), .d (.sl (.sl T_api_Value)), .k (.fn 58 [])], [], fun x y => g x.1 x.2.1⟩] e
abbrev S0 : Type := (List (List D_api_Value)) → (List (List D_api_Value)) → Int → Int → Option Bool
def sg0 (s : S0) : Seg := mkSg [4, 1, 0, 1, 1] [] [1, 2, 15, 16, 17] [⟨[.d (.sl (.sl T_api_Value)), .k (.fn 58 []), .d (.sl (.sl T_api_Value)), .d (.int .i64), .d (.int .i64)], [], fun x y => s x.1 x.2.2.1 x.2.2.2.1 x.2.2.2.2.1⟩] e
section
variable {β : Type} (g58 : rows_Same.G) (s0 : S0)
noncomputable abbrev env : FEnv := mkEnv prog f59 [(58, rows_Same.ct g58)] 0 [] [sg0 s0]
def c (a0 : List (List D_api_Value)) (a1 : List (List D_api_Value)) (ret : Bool → Option β) : Option β := (bif (((List.length a0) : Int) != ((List.length a1) : Int)) then (ret (false)) else ((s0 a1 a0 ((List.length a0) : Int) (0 : Int)).bind ret))
def s0c (x0 : List (List D_api_Value)) (x1 : List (List D_api_Value)) (x2 : Int) (x3 : Int) (ret : Bool → Option β) : Option β := (bif (decide (x3 < x2)) then (bif ((decide ((0 : Int) ≤ x3)) && (decide (x3 < ((List.length x1) : Int)))) then (bif ((decide ((0 : Int) ≤ x3)) && (decide (x3 < ((List.length x0) : Int)))) then ((g58 (elem (Ty.sl T_api_Value) x1 x3) (elem (Ty.sl T_api_Value) x0 x3)).bind fun r0 => (bif (!r0) then (ret (false)) else ((s0 x0 x1 x2 (IntKind.wrap IntKind.i64 (x3 + (1 : Int)))).bind ret))) else none) else none) else (ret (true)))
variable {g58} {s0}
theorem ev : EvA (env g58 s0) [] [0, 1, 2] e ⟨[.d (.sl (.sl T_api_Value)), .d (.sl (.sl T_api_Value)), .k (.fn 58 [])], [], fun x y => c s0 x.1 x.2.1 some⟩ := fun x y => Eq.trans (b := c s0 x.1 x.2.1 fun r => some (e r)) (by kernel_rfl) (by simp only [c, bif_bind, sum_bind, oa, os, on, ofs])
theorem s0_ev : EvA (env g58 s0) [4, 1, 0, 1, 1] [1, 2, 15, 16, 17] e ⟨[.d (.sl (.sl T_api_Value)), .k (.fn 58 []), .d (.sl (.sl T_api_Value)), .d (.int .i64), .d (.int .i64)], [], fun x y => s0c g58 s0 x.1 x.2.2.1 x.2.2.2.1 x.2.2.2.2.1 some⟩ := fun x y => Eq.trans (b := s0c g58 s0 x.1 x.2.2.1 x.2.2.2.1 x.2.2.2.2.1 fun r => some (e r)) (by kernel_rfl) (by simp only [s0c, bif_bind, sum_bind, oa, os, on, ofs])
end
def s0 : Nat → (List (List D_api_Value)) → (List (List D_api_Value)) → Int → Int → Option Bool
  | 0, _, _, _, _ => none
  | k + 1, x0, x1, x2, x3 => s0c (rows_Same.f k) (s0 k) x0 x1 x2 x3 some
def f (k : Nat) (a0 : List (List D_api_Value)) (a1 : List (List D_api_Value)) : Option Bool := c (s0 k) a0 a1 some
noncomputable abbrev E (k : Nat) : FEnv := env (rows_Same.f k) (s0 k)
theorem hE (k : Nat) : EnvOK (E k).toEnv := ctsOK (L.cons (rows_Same.ok k) L.nil)
theorem segs_ok : ∀ k, ∀ s ∈ [sg0 (s0 k)], SegB prog f59 0 s
  | 0 => (L.cons (sg_none (L.cons (fun _ _ => rfl) L.nil)) L.nil)
  | k + 1 => (L.cons (sg_ok (hE k) (segs_ok k) (L.cons s0_ev L.nil)) L.nil)
theorem ok (k : Nat) : CtOK prog 59 (ct (f k)) := fn_ok func59 rfl (by decide) (hE k) (segs_ok k) (L.cons ev L.nil)
end api_Value_59
namespace ops_Replies
def e (r : Bool) : Res := ⟨.v (.one (.d .bool r)), []⟩
abbrev G : Type := Int → (List (List D_api_Value)) → Int → (List (List D_api_Value)) → Option Bool
def ct (g : G) : Ct := mkCt 0 [] [⟨[.s T_api_Reply, .s T_api_Reply], [], fun x y => g x.1.1.1 x.1.1.2.1 x.2.1.1.1 x.2.1.1.2.1⟩] e
section
variable {β : Type} (g58 : rows_Same.G) (g59 : api_Value_59.G)
noncomputable abbrev env : FEnv := mkEnv prog f22 [(58, rows_Same.ct g58), (59, api_Value_59.ct g59)] 0 [] []
def c (a0 : Int) (a1 : List (List D_api_Value)) (a2 : Int) (a3 : List (List D_api_Value)) (ret : Bool → Option β) : Option β := (bif (a0 == a2) then ((g59 a1 a3).bind fun r0 => (ret (r0))) else (ret (false)))
variable {g58} {g59}
theorem ev : EvA (env g58 g59) [] [0, 1] e ⟨[.s T_api_Reply, .s T_api_Reply], [], fun x y => c g59 x.1.1.1 x.1.1.2.1 x.2.1.1.1 x.2.1.1.2.1 some⟩ := fun x y => Eq.trans (b := c g59 x.1.1.1 x.1.1.2.1 x.2.1.1.1 x.2.1.1.2.1 fun r => some (e r)) (by kernel_rfl) (by simp only [c, bif_bind, sum_bind, oa, os, on, ofs])
end
def f (k : Nat) (a0 : Int) (a1 : List (List D_api_Value)) (a2 : Int) (a3 : List (List D_api_Value)) : Option Bool := c (api_Value_59.f k) a0 a1 a2 a3 some
noncomputable abbrev E (k : Nat) : FEnv := env (rows_Same.f k) (api_Value_59.f k) 
theorem hE (k : Nat) : EnvOK (E k).toEnv := ctsOK (L.cons (rows_Same.ok k) (L.cons (api_Value_59.ok k) L.nil))
theorem ok (k : Nat) : CtOK prog 22 (ct (f k)) := fn_ok func22 rfl (by decide) (hE k) L.nil (L.cons ev L.nil)
end ops_Replies
namespace transomlaw14_awake
def e (r : Bool) : Res := ⟨.v (.one (.d .bool r)), []⟩
abbrev G : Type := Option Bool
def ct (g : G) : Ct := mkCt 0 [] [⟨[], [], fun x y => g⟩] e
section
variable {β : Type} (g10 : ops_PutChange.G) (g12 : ops_ReadChange.G) (g16 : ops_Put.G) (g18 : ops_Read.G) (g21 : ops_Same.G) (g22 : ops_Replies.G)
noncomputable abbrev env : FEnv := mkEnv prog f9 [(10, ops_PutChange.ct g10), (12, ops_ReadChange.ct g12), (16, ops_Put.ct g16), (18, ops_Read.ct g18), (21, ops_Same.ct g21), (22, ops_Replies.ct g22)] 0 [] []
def c  (ret : Bool → Option β) : Option β := ((g16 ((7 : Int), ((ByteArray.mk (List.toArray [])), ([], ([], ([], ((0 : Int), (Z_api_Change, ())))))))).bind fun r0 => ((g18 (ByteArray.mk (List.toArray [(7 : UInt8), (0 : UInt8), (1 : UInt8), (0 : UInt8), (1 : UInt8), (0 : UInt8), (1 : UInt8), (0 : UInt8), (0 : UInt8), (122 : UInt8)]))).bind fun r1 => ((g10 ((6 : Int), ((ByteArray.mk (List.toArray [(97 : UInt8)])), ((ByteArray.mk (List.toArray [(98 : UInt8)])), ((ByteArray.mk (List.toArray [(99 : UInt8)])), ((ByteArray.mk (List.toArray [])), ((ByteArray.mk (List.toArray [])), ((0 : Int), ([], (((ByteArray.mk (List.toArray [])), ((0 : Int), (false, (((0 : Int), ((0 : Int), ((0 : Int), ((ByteArray.mk (List.toArray [])), ())))), ())))), (((ByteArray.mk (List.toArray [])), ((0 : Int), ([], ()))), ()))))))))))).bind fun r2 => ((g12 r2.1).bind fun r3 => ((g18 (ByteArray.mk (List.toArray [(10 : UInt8)]))).bind fun r4 => (bif ((ByteArray.toList r0.1) == (ByteArray.toList (ByteArray.mk (List.toArray [(7 : UInt8), (0 : UInt8), (1 : UInt8), (0 : UInt8), (1 : UInt8), (0 : UInt8), (1 : UInt8), (0 : UInt8), (0 : UInt8)])))) then (bif (r0.2 == (0 : Int)) then (bif (r1.1.1 == (7 : Int)) then (bif ((ByteArray.toList r1.2.1) == (ByteArray.toList (ByteArray.mk (List.toArray [(122 : UInt8)])))) then (bif (r1.2.2 == (0 : Int)) then (bif (r2.2 == (0 : Int)) then (bif ((ByteArray.toList r3.1.2.2.1) == (ByteArray.toList (ByteArray.mk (List.toArray [(98 : UInt8)])))) then (bif ((ByteArray.toList r3.2.1) == (ByteArray.toList (ByteArray.mk (List.toArray [])))) then (bif (r3.2.2 == (0 : Int)) then (bif (r4.2.2 == (1 : Int)) then ((g21 r1.1 ((7 : Int), ((ByteArray.mk (List.toArray [])), ([], ([], ([], ((0 : Int), (Z_api_Change, ())))))))).bind fun r5 => (bif r5 then ((g21 r1.1 ((9 : Int), ((ByteArray.mk (List.toArray [])), ([], ([], ([], ((0 : Int), (Z_api_Change, ())))))))).bind fun r6 => (bif (!r6) then ((g22 (0 : Int) [] (1 : Int) []).bind fun r7 => (ret ((!r7)))) else (ret (false)))) else (ret (false)))) else (ret (false))) else (ret (false))) else (ret (false))) else (ret (false))) else (ret (false))) else (ret (false))) else (ret (false))) else (ret (false))) else (ret (false))) else (ret (false))))))))
variable {g10} {g12} {g16} {g18} {g21} {g22}
theorem ev : EvA (env g10 g12 g16 g18 g21 g22) [] [] e ⟨[], [], fun x y => c g10 g12 g16 g18 g21 g22 some⟩ := fun x y => Eq.trans (b := c g10 g12 g16 g18 g21 g22 fun r => some (e r)) (by kernel_rfl) (by simp only [c, bif_bind, sum_bind, oa, os, on, ofs])
end
def f (k : Nat)  : Option Bool := c (ops_PutChange.f k) (ops_ReadChange.f k) (ops_Put.f k) (ops_Read.f k) (ops_Same.f k) (ops_Replies.f k)  some
noncomputable abbrev E (k : Nat) : FEnv := env (ops_PutChange.f k) (ops_ReadChange.f k) (ops_Put.f k) (ops_Read.f k) (ops_Same.f k) (ops_Replies.f k) 
theorem hE (k : Nat) : EnvOK (E k).toEnv := ctsOK (L.cons (ops_PutChange.ok k) (L.cons (ops_ReadChange.ok k) (L.cons (ops_Put.ok k) (L.cons (ops_Read.ok k) (L.cons (ops_Same.ok k) (L.cons (ops_Replies.ok k) L.nil))))))
theorem ok (k : Nat) : CtOK prog 9 (ct (f k)) := fn_ok func9 rfl (by decide) (hE k) L.nil (L.cons ev L.nil)
end transomlaw14_awake
namespace transomref14_long
def e (r : Bool) : Res := ⟨.v (.one (.d .bool r)), []⟩
abbrev G : Type := (List ByteArray) → Option Bool
def ct (g : G) : Ct := mkCt 0 [] [⟨[.d (.sl .str)], [], fun x y => g x.1⟩] e
abbrev S0 : Type := (List ByteArray) → Int → Option Bool
def sg0 (s : S0) : Seg := mkSg [4, 1, 0, 1] [] [0, 3] [⟨[.d (.sl .str), .d (.int .i64)], [], fun x y => s x.1 x.2.1⟩] e
section
variable {β : Type} (s0 : S0)
noncomputable abbrev env : FEnv := mkEnv prog f34 [] 0 [] [sg0 s0]
def c (a0 : List ByteArray) (ret : Bool → Option β) : Option β := ((s0 a0 (0 : Int)).bind ret)
def s0c (x0 : List ByteArray) (x1 : Int) (ret : Bool → Option β) : Option β := (bif (decide (x1 < ((List.length x0) : Int))) then (bif ((decide ((0 : Int) ≤ x1)) && (decide (x1 < ((List.length x0) : Int)))) then (bif (decide (((ByteArray.size (elem Ty.str x0 x1)) : Int) > (16 : Int))) then (ret (true)) else ((s0 x0 (IntKind.wrap IntKind.i64 (x1 + (1 : Int)))).bind ret)) else none) else (ret (false)))
variable {s0}
theorem ev : EvA (env s0) [] [0] e ⟨[.d (.sl .str)], [], fun x y => c s0 x.1 some⟩ := fun x y => Eq.trans (b := c s0 x.1 fun r => some (e r)) (by kernel_rfl) (by simp only [c, bif_bind, sum_bind, oa, os, on, ofs])
theorem s0_ev : EvA (env s0) [4, 1, 0, 1] [0, 3] e ⟨[.d (.sl .str), .d (.int .i64)], [], fun x y => s0c s0 x.1 x.2.1 some⟩ := fun x y => Eq.trans (b := s0c s0 x.1 x.2.1 fun r => some (e r)) (by kernel_rfl) (by simp only [s0c, bif_bind, sum_bind, oa, os, on, ofs])
end
def s0 : Nat → (List ByteArray) → Int → Option Bool
  | 0, _, _ => none
  | k + 1, x0, x1 => s0c (s0 k) x0 x1 some
def f (k : Nat) (a0 : List ByteArray) : Option Bool := c (s0 k) a0 some
noncomputable abbrev E (k : Nat) : FEnv := env  (s0 k)
theorem hE (k : Nat) : EnvOK (E k).toEnv := ctsOK L.nil
theorem segs_ok : ∀ k, ∀ s ∈ [sg0 (s0 k)], SegB prog f34 0 s
  | 0 => (L.cons (sg_none (L.cons (fun _ _ => rfl) L.nil)) L.nil)
  | k + 1 => (L.cons (sg_ok (hE k) (segs_ok k) (L.cons s0_ev L.nil)) L.nil)
theorem ok (k : Nat) : CtOK prog 34 (ct (f k)) := fn_ok func34 rfl (by decide) (hE k) (segs_ok k) (L.cons ev L.nil)
end transomref14_long
namespace transomref14_small
def e (r : ByteArray × Int × (List D_api_Col)) : Res := ⟨.v (.agg [(.d .str r.1), (.d (.int .i64) r.2.1), (.d (.sl T_api_Col) r.2.2)]), []⟩
abbrev G : Type := ByteArray → Int → Bool → Int → Int → Int → ByteArray → Option (ByteArray × Int × (List D_api_Col))
def ct (g : G) : Ct := mkCt 0 [] [⟨[.s T_api_Col], [], fun x y => g x.1.1.1 x.1.1.2.1 x.1.1.2.2.1 x.1.1.2.2.2.1.1 x.1.1.2.2.2.1.2.1 x.1.1.2.2.2.1.2.2.1 x.1.1.2.2.2.1.2.2.2.1⟩] e
section
variable {β : Type} 
noncomputable abbrev env : FEnv := mkEnv prog f63 [] 0 [] []
def c (a0 : ByteArray) (a1 : Int) (a2 : Bool) (a3 : Int) (a4 : Int) (a5 : Int) (a6 : ByteArray) (ret : (ByteArray × Int × (List D_api_Col)) → Option β) : Option β := (bif ((ByteArray.toList a0) == (ByteArray.toList (ByteArray.mk (List.toArray [(107 : UInt8)])))) then (ret ((ByteArray.mk (List.toArray [(120 : UInt8)])), (1 : Int), [((ByteArray.mk (List.toArray [(106 : UInt8)])), ((2 : Int), (false, (((0 : Int), ((0 : Int), ((0 : Int), ((ByteArray.mk (List.toArray [])), ())))), ())))), (a0, (a1, (a2, ((a3, (a4, (a5, (a6, ())))), ()))))])) else (ret ((ByteArray.mk (List.toArray [(120 : UInt8)])), (1 : Int), [((ByteArray.mk (List.toArray [(107 : UInt8)])), ((2 : Int), (false, (((0 : Int), ((0 : Int), ((0 : Int), ((ByteArray.mk (List.toArray [])), ())))), ())))), (a0, (a1, (a2, ((a3, (a4, (a5, (a6, ())))), ()))))])))
theorem ev : EvA (env) [] [0] e ⟨[.s T_api_Col], [], fun x y => c x.1.1.1 x.1.1.2.1 x.1.1.2.2.1 x.1.1.2.2.2.1.1 x.1.1.2.2.2.1.2.1 x.1.1.2.2.2.1.2.2.1 x.1.1.2.2.2.1.2.2.2.1 some⟩ := fun x y => Eq.trans (b := c x.1.1.1 x.1.1.2.1 x.1.1.2.2.1 x.1.1.2.2.2.1.1 x.1.1.2.2.2.1.2.1 x.1.1.2.2.2.1.2.2.1 x.1.1.2.2.2.1.2.2.2.1 fun r => some (e r)) (by kernel_rfl) (by simp only [c, bif_bind, sum_bind, oa, os, on, ofs])
end
def f (k : Nat) (a0 : ByteArray) (a1 : Int) (a2 : Bool) (a3 : Int) (a4 : Int) (a5 : Int) (a6 : ByteArray) : Option (ByteArray × Int × (List D_api_Col)) := c  a0 a1 a2 a3 a4 a5 a6 some
noncomputable abbrev E (k : Nat) : FEnv := env  
theorem hE (k : Nat) : EnvOK (E k).toEnv := ctsOK L.nil
theorem ok (k : Nat) : CtOK prog 63 (ct (f k)) := fn_ok func63 rfl (by decide) (hE k) L.nil (L.cons ev L.nil)
end transomref14_small
namespace transomref14_def
def e (r : ByteArray × Int × (List D_api_Col) × Bool) : Res := ⟨.tup [(.agg [(.d .str r.1), (.d (.int .i64) r.2.1), (.d (.sl T_api_Col) r.2.2.1)]), (.one (.d .bool r.2.2.2))], []⟩
abbrev G : Type := D_api_Change → Option (ByteArray × Int × (List D_api_Col) × Bool)
def ct (g : G) : Ct := mkCt 0 [] [⟨[.s T_api_Change], [], fun x y => g x.1.1⟩] e
section
variable {β : Type} (g63 : transomref14_small.G)
noncomputable abbrev env : FEnv := mkEnv prog f35 [(63, transomref14_small.ct g63)] 0 [] []
def c (a0 : D_api_Change) (ret : (ByteArray × Int × (List D_api_Col) × Bool) → Option β) : Option β := (bif (a0.1 == (1 : Int)) then (ret (a0.2.2.2.2.2.2.2.2.2.1.1, a0.2.2.2.2.2.2.2.2.2.1.2.1, a0.2.2.2.2.2.2.2.2.2.1.2.2.1, true)) else (bif (a0.1 == (2 : Int)) then ((g63 a0.2.2.2.2.2.2.2.2.1.1 a0.2.2.2.2.2.2.2.2.1.2.1 a0.2.2.2.2.2.2.2.2.1.2.2.1 a0.2.2.2.2.2.2.2.2.1.2.2.2.1.1 a0.2.2.2.2.2.2.2.2.1.2.2.2.1.2.1 a0.2.2.2.2.2.2.2.2.1.2.2.2.1.2.2.1 a0.2.2.2.2.2.2.2.2.1.2.2.2.1.2.2.2.1).bind fun r0 => (ret (r0.1, r0.2.1, r0.2.2, true))) else (ret ((ByteArray.mk (List.toArray [])), (0 : Int), [], false))))
variable {g63}
theorem ev : EvA (env g63) [] [0] e ⟨[.s T_api_Change], [], fun x y => c g63 x.1.1 some⟩ := fun x y => Eq.trans (b := c g63 x.1.1 fun r => some (e r)) (by kernel_rfl) (by simp only [c, bif_bind, sum_bind, oa, os, on, ofs])
end
def f (k : Nat) (a0 : D_api_Change) : Option (ByteArray × Int × (List D_api_Col) × Bool) := c (transomref14_small.f k) a0 some
noncomputable abbrev E (k : Nat) : FEnv := env (transomref14_small.f k) 
theorem hE (k : Nat) : EnvOK (E k).toEnv := ctsOK (L.cons (transomref14_small.ok k) L.nil)
theorem ok (k : Nat) : CtOK prog 35 (ct (f k)) := fn_ok func35 rfl (by decide) (hE k) L.nil (L.cons ev L.nil)
end transomref14_def
namespace transomref03_Uint
def e (r : ByteArray) : Res := ⟨.v (.one (.d .str r)), []⟩
abbrev G : Type := Int → Option ByteArray
def ct (g : G) : Ct := mkCt 0 [] [⟨[.d (.int .u64)], [], fun x y => g x.1⟩] e
abbrev S0 : Type := Int → (List Int) → Option ByteArray
def sg0 (s : S0) : Seg := mkSg [4, 0, 1, 1] [.own 3 (.int .u8)] [0, 3] [⟨[.d (.int .u64), .k (.own 0)], [.own (.int .u8) false], fun x y => s x.1 y.1⟩] e
section
variable {β : Type} (s0 : S0)
noncomputable abbrev env : FEnv := mkEnv prog f37 [] 0 [] [sg0 s0]
def c (a0 : Int) (ret : ByteArray → Option β) : Option β := ((s0 a0 []).bind ret)
def s0c (x0 : Int) (x1 : List Int) (ret : ByteArray → Option β) : Option β := (bif (decide (x0 ≥ (128 : Int))) then (bif (decide ((((List.length x1) + (1 : Nat)) * (1 : Nat)) ≤ (35184372088832 : Nat))) then ((s0 (IntKind.wrap IntKind.u64 (Int.tdiv x0 (128 : Int))) (x1 ++ [(IntKind.wrap IntKind.u8 (IntKind.wrap IntKind.u64 ((Int.tmod x0 (128 : Int)) + (128 : Int))))])).bind ret) else none) else (bif (decide ((((List.length x1) + (1 : Nat)) * (1 : Nat)) ≤ (35184372088832 : Nat))) then (ret ((ByteArray.mk (List.toArray (List.map (fun n => (UInt8.ofNat (Int.toNat n))) (x1 ++ [(IntKind.wrap IntKind.u8 x0)])))))) else none))
variable {s0}
theorem ev : EvA (env s0) [] [0] e ⟨[.d (.int .u64)], [], fun x y => c s0 x.1 some⟩ := fun x y => Eq.trans (b := c s0 x.1 fun r => some (e r)) (by kernel_rfl) (by simp only [c, bif_bind, sum_bind, oa, os, on, ofs])
theorem s0_ev : EvA (env s0) [4, 0, 1, 1] [0, 3] e ⟨[.d (.int .u64), .k (.own 0)], [.own (.int .u8) false], fun x y => s0c s0 x.1 y.1 some⟩ := fun x y => Eq.trans (b := s0c s0 x.1 y.1 fun r => some (e r)) (by kernel_rfl) (by simp only [s0c, bif_bind, sum_bind, oa, os, on, ofs])
end
def s0 : Nat → Int → (List Int) → Option ByteArray
  | 0, _, _ => none
  | k + 1, x0, x1 => s0c (s0 k) x0 x1 some
def f (k : Nat) (a0 : Int) : Option ByteArray := c (s0 k) a0 some
noncomputable abbrev E (k : Nat) : FEnv := env  (s0 k)
theorem hE (k : Nat) : EnvOK (E k).toEnv := ctsOK L.nil
theorem segs_ok : ∀ k, ∀ s ∈ [sg0 (s0 k)], SegB prog f37 0 s
  | 0 => (L.cons (sg_none (L.cons (fun _ _ => rfl) L.nil)) L.nil)
  | k + 1 => (L.cons (sg_ok (hE k) (segs_ok k) (L.cons s0_ev L.nil)) L.nil)
theorem ok (k : Nat) : CtOK prog 37 (ct (f k)) := fn_ok func37 rfl (by decide) (hE k) (segs_ok k) (L.cons ev L.nil)
end transomref03_Uint
end Go.Proofs.YtaehpfmnejeddaaGreatDoor.Aev
