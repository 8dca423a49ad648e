/- By a program of this session (AEV): functions of the program as plain functions, and that the machine does what they say. -/
import Derived.Test.YtaehpfmnejeddaaGreatDoorTys
import Derived.Test.YtaehpfmnejeddaaGreatDoorProg
import Derived.Laws.Externs
import Derived.Lib.Bytealg
import Derived.Test.YtaehpfmnejeddaaGreatDoorF0
import Derived.Test.YtaehpfmnejeddaaGreatDoorF1
import Derived.Test.YtaehpfmnejeddaaGreatDoorF2
namespace Go.Proofs.YtaehpfmnejeddaaGreatDoor.Aev
set_option linter.unusedVariables false
set_option linter.unusedSimpArgs false
set_option maxRecDepth 100000
set_option maxHeartbeats 4000000
open Go Go.Proofs.Tryz
namespace ops_PutChange
def e (r : ByteArray × Int) : Res := ⟨.tup [(.one (.d .str r.1)), (.one (.d (.int .i64) r.2))], []⟩
abbrev G : Type := D_api_Change → Option (ByteArray × Int)
def ct (g : G) : Ct := mkCt 0 [] [⟨[.s T_api_Change], [], fun x y => g x.1.1⟩] e
abbrev S0 : Type := ByteArray → D_api_Change → Option (ByteArray × Int)
abbrev S1 : Type := ByteArray → ByteArray → (List ByteArray) → Int → Int → Option (ByteArray × Int)
def sg0 (s : S0) : Seg := mkSg [1, 1, 1, 1] [] [1, 5] [⟨[.k (.ptr 0 0), .d .str], [.box [.g T_api_Change]], fun x y => s x.2.1 y.1.1⟩] e
def sg1 (s : S1) : Seg := mkSg [4, 1, 0, 1, 1, 1, 1, 1, 1, 1] [] [5, 10, 63, 64, 65] [⟨[.d .str, .d .str, .d (.sl .str), .d (.int .i64), .d (.int .i64)], [], fun x y => s x.1 x.2.1 x.2.2.1 x.2.2.2.1 x.2.2.2.2.1⟩] e
section
variable {β : Type} (g28 : ops_check.G) (g29 : ops_def.G) (g30 : schema_Put.G) (g31 : pack_Uint.G) (g32_0 : ops_texts.G0) (g32_1 : ops_texts.G1) (g33 : pack_Text.G) (s0 : S0) (s1 : S1)
noncomputable abbrev env : FEnv := mkEnv prog f10 [(28, ops_check.ct g28), (29, ops_def.ct g29), (30, schema_Put.ct g30), (31, pack_Uint.ct g31), (32, ops_texts.ct g32_0 g32_1), (33, pack_Text.ct g33)] 0 [] [sg0 s0, sg1 s1]
def c (a0 : D_api_Change) (ret : (ByteArray × Int) → Option β) : Option β := ((g28 a0).bind fun r0 => (bif (r0 != (0 : Int)) then (ret ((ByteArray.mk (List.toArray [])), r0)) else ((g29 a0).bind fun r1 => (bif r1.2.2.2 then ((g30 r1.1 r1.2.1 r1.2.2.1).bind fun r2 => (bif (r2.2 != (0 : Int)) then (ret ((ByteArray.mk (List.toArray [])), r2.2)) else ((s0 r2.1 a0).bind ret))) else ((s0 (ByteArray.mk (List.toArray [])) a0).bind ret)))))
def s0c (x0 : ByteArray) (x1 : D_api_Change) (ret : (ByteArray × Int) → Option β) : Option β := ((g31 (IntKind.wrap IntKind.u64 x1.1)).bind fun r0 => ((g32_0 x1).bind fun r1 => ((g33 r1.2.1).bind fun r2 => (bif ((decide ((ByteArray.size r0) ≤ (4611686018427387903 : Nat))) && (decide ((ByteArray.size r2) ≤ (4611686018427387903 : Nat)))) then ((g33 r1.2.2.1).bind fun r3 => (bif ((decide ((ByteArray.size (r0 ++ r2)) ≤ (4611686018427387903 : Nat))) && (decide ((ByteArray.size r3) ≤ (4611686018427387903 : Nat)))) then ((g33 r1.2.2.2.1).bind fun r4 => (bif ((decide ((ByteArray.size ((r0 ++ r2) ++ r3)) ≤ (4611686018427387903 : Nat))) && (decide ((ByteArray.size r4) ≤ (4611686018427387903 : Nat)))) then ((g33 r1.2.2.2.2.1).bind fun r5 => (bif ((decide ((ByteArray.size (((r0 ++ r2) ++ r3) ++ r4)) ≤ (4611686018427387903 : Nat))) && (decide ((ByteArray.size r5) ≤ (4611686018427387903 : Nat)))) then ((g33 r1.2.2.2.2.2.1).bind fun r6 => (bif ((decide ((ByteArray.size ((((r0 ++ r2) ++ r3) ++ r4) ++ r5)) ≤ (4611686018427387903 : Nat))) && (decide ((ByteArray.size r6) ≤ (4611686018427387903 : Nat)))) then ((g31 (IntKind.wrap IntKind.u64 r1.2.2.2.2.2.2.1)).bind fun r7 => ((g31 (IntKind.wrap IntKind.u64 ((List.length r1.2.2.2.2.2.2.2.1) : Int))).bind fun r8 => (bif ((decide ((ByteArray.size r7) ≤ (4611686018427387903 : Nat))) && (decide ((ByteArray.size r8) ≤ (4611686018427387903 : Nat)))) then (bif ((decide ((ByteArray.size (((((r0 ++ r2) ++ r3) ++ r4) ++ r5) ++ r6)) ≤ (4611686018427387903 : Nat))) && (decide ((ByteArray.size (r7 ++ r8)) ≤ (4611686018427387903 : Nat)))) then ((s1 x0 ((((((r0 ++ r2) ++ r3) ++ r4) ++ r5) ++ r6) ++ (r7 ++ r8)) r1.2.2.2.2.2.2.2.1 ((List.length r1.2.2.2.2.2.2.2.1) : Int) (0 : Int)).bind ret) else none) else none))) else none)) else none)) else none)) else none)) else none))))
def s1c (x0 : ByteArray) (x1 : ByteArray) (x2 : List ByteArray) (x3 : Int) (x4 : Int) (ret : (ByteArray × Int) → Option β) : Option β := (bif (decide (x4 < x3)) then (bif ((decide ((0 : Int) ≤ x4)) && (decide (x4 < ((List.length x2) : Int)))) then ((g33 (elem Ty.str x2 x4)).bind fun r0 => (bif ((decide ((ByteArray.size x1) ≤ (4611686018427387903 : Nat))) && (decide ((ByteArray.size r0) ≤ (4611686018427387903 : Nat)))) then ((s1 x0 (x1 ++ r0) x2 x3 (IntKind.wrap IntKind.i64 (x4 + (1 : Int)))).bind ret) else none)) else none) else (bif ((decide ((ByteArray.size x1) ≤ (4611686018427387903 : Nat))) && (decide ((ByteArray.size x0) ≤ (4611686018427387903 : Nat)))) then (ret ((x1 ++ x0), (0 : Int))) else none))
variable {g28} {g29} {g30} {g31} {g32_0} {g32_1} {g33} {s0} {s1}
theorem ev : EvA (env g28 g29 g30 g31 g32_0 g32_1 g33 s0 s1) [] [0] e ⟨[.s T_api_Change], [], fun x y => c g28 g29 g30 s0 x.1.1 some⟩ := fun x y => Eq.trans (b := c g28 g29 g30 s0 x.1.1 fun r => some (e r)) (by kernel_rfl) (by simp only [c, bif_bind, sum_bind, oa, os, on, ofs])
theorem s0_ev : EvA (env g28 g29 g30 g31 g32_0 g32_1 g33 s0 s1) [1, 1, 1, 1] [1, 5] e ⟨[.k (.ptr 0 0), .d .str], [.box [.g T_api_Change]], fun x y => s0c g31 g32_0 g33 s1 x.2.1 y.1.1 some⟩ := fun x y => Eq.trans (b := s0c g31 g32_0 g33 s1 x.2.1 y.1.1 fun r => some (e r)) (by kernel_rfl) (by simp only [s0c, bif_bind, sum_bind, oa, os, on, ofs])
theorem s1_ev : EvA (env g28 g29 g30 g31 g32_0 g32_1 g33 s0 s1) [4, 1, 0, 1, 1, 1, 1, 1, 1, 1] [5, 10, 63, 64, 65] e ⟨[.d .str, .d .str, .d (.sl .str), .d (.int .i64), .d (.int .i64)], [], fun x y => s1c g33 s1 x.1 x.2.1 x.2.2.1 x.2.2.2.1 x.2.2.2.2.1 some⟩ := fun x y => Eq.trans (b := s1c g33 s1 x.1 x.2.1 x.2.2.1 x.2.2.2.1 x.2.2.2.2.1 fun r => some (e r)) (by kernel_rfl) (by simp only [s1c, bif_bind, sum_bind, oa, os, on, ofs])
end
mutual
def s0 : Nat → ByteArray → D_api_Change → Option (ByteArray × Int)
  | 0, _, _ => none
  | k + 1, x0, x1 => s0c (pack_Uint.f k) (ops_texts.f0 k) (pack_Text.f k) (s1 k) x0 x1 some
def s1 : Nat → ByteArray → ByteArray → (List ByteArray) → Int → Int → Option (ByteArray × Int)
  | 0, _, _, _, _, _ => none
  | k + 1, x0, x1, x2, x3, x4 => s1c (pack_Text.f k) (s1 k) x0 x1 x2 x3 x4 some
end
def f (k : Nat) (a0 : D_api_Change) : Option (ByteArray × Int) := c (ops_check.f k) (ops_def.f k) (schema_Put.f k) (s0 k) a0 some
noncomputable abbrev E (k : Nat) : FEnv := env (ops_check.f k) (ops_def.f k) (schema_Put.f k) (pack_Uint.f k) (ops_texts.f0 k) (ops_texts.f1 k) (pack_Text.f k) (s0 k) (s1 k)
theorem hE (k : Nat) : EnvOK (E k).toEnv := ctsOK (L.cons (ops_check.ok k) (L.cons (ops_def.ok k) (L.cons (schema_Put.ok k) (L.cons (pack_Uint.ok k) (L.cons (ops_texts.ok k) (L.cons (pack_Text.ok k) L.nil))))))
theorem segs_ok : ∀ k, ∀ s ∈ [sg0 (s0 k), sg1 (s1 k)], SegB prog f10 0 s
  | 0 => (L.cons (sg_none (L.cons (fun _ _ => rfl) L.nil)) (L.cons (sg_none (L.cons (fun _ _ => rfl) L.nil)) L.nil))
  | k + 1 => (L.cons (sg_ok (hE k) (segs_ok k) (L.cons s0_ev L.nil)) (L.cons (sg_ok (hE k) (segs_ok k) (L.cons s1_ev L.nil)) L.nil))
theorem ok (k : Nat) : CtOK prog 10 (ct (f k)) := fn_ok func10 rfl (by decide) (hE k) (segs_ok k) (L.cons ev L.nil)
end ops_PutChange
namespace ops_reader_fail
def e (r : ByteArray × Int) : Res := ⟨.tup [], [some (.box [(.d .str r.1), (.d (.int .i64) r.2)])]⟩
abbrev G : Type := Int → ByteArray → Int → Option (ByteArray × Int)
def ct (g : G) : Ct := mkCt 1 [] [⟨[.k (.ptr 0 0), .d (.int .i64)], [.box [.g T_ops_reader]], fun x y => g x.2.1 y.1.1.1 y.1.1.2.1⟩] e
section
variable {β : Type} 
noncomputable abbrev env : FEnv := mkEnv prog f42 [] 1 [] []
def c (a0 : Int) (a1 : ByteArray) (a2 : Int) (ret : (ByteArray × Int) → Option β) : Option β := (bif (a2 == (0 : Int)) then (ret (a1, a0)) else (ret (a1, a2)))
theorem ev : EvA (env) [] [0, 1] e ⟨[.k (.ptr 0 0), .d (.int .i64)], [.box [.g T_ops_reader]], fun x y => c x.2.1 y.1.1.1 y.1.1.2.1 some⟩ := fun x y => Eq.trans (b := c x.2.1 y.1.1.1 y.1.1.2.1 fun r => some (e r)) (by kernel_rfl) (by simp only [c, bif_bind, sum_bind, oa, os, on, ofs])
end
def f (k : Nat) (a0 : Int) (a1 : ByteArray) (a2 : Int) : Option (ByteArray × Int) := c  a0 a1 a2 some
noncomputable abbrev E (k : Nat) : FEnv := env  
theorem hE (k : Nat) : EnvOK (E k).toEnv := ctsOK L.nil
theorem ok (k : Nat) : CtOK prog 42 (ct (f k)) := fn_ok func42 rfl (by decide) (hE k) L.nil (L.cons ev L.nil)
end ops_reader_fail
namespace pack_ReadUint
def e (r : Int × ByteArray × Int) : Res := ⟨.tup [(.one (.d (.int .u64) r.1)), (.one (.d .str r.2.1)), (.one (.d (.int .i64) r.2.2))], []⟩
abbrev G : Type := ByteArray → Option (Int × ByteArray × Int)
def ct (g : G) : Ct := mkCt 0 [] [⟨[.d .str], [], fun x y => g x.1⟩] e
abbrev S0 : Type := ByteArray → Int → Int → Bool → Option (Int × ByteArray × Int)
abbrev S1 : Type := ByteArray → Int → Int → Option (Int × ByteArray × Int)
abbrev S2 : Type := ByteArray → Int → Int → Option (Int × ByteArray × Int)
abbrev S3 : Type := ByteArray → Int → Int → Bool → Option (Int × ByteArray × Int)
abbrev S4 : Type := ByteArray → Int → Int → Option (Int × ByteArray × Int)
def sg0 (s : S0) : Seg := mkSg [1, 3, 1, 4, 0, 1, 1, 1, 6, 1] [] [0, 5, 6, 13] [⟨[.d .str, .d (.int .u64), .d (.int .i64), .d .bool], [], fun x y => s x.1 x.2.1 x.2.2.1 x.2.2.2.1⟩] e
def sg1 (s : S1) : Seg := mkSg [1, 1, 1, 1, 6, 1] [] [0, 5, 6] [⟨[.d .str, .d (.int .u64), .d (.int .i64)], [], fun x y => s x.1 x.2.1 x.2.2.1⟩] e
def sg2 (s : S2) : Seg := mkSg [100, 1] [] [0, 5, 6] [⟨[.d .str, .d (.int .u64), .d (.int .i64)], [], fun x y => s x.1 x.2.1 x.2.2.1⟩] e
def sg3 (s : S3) : Seg := mkSg [1, 3, 1, 4, 0, 1, 100, 1] [] [0, 5, 6, 13] [⟨[.d .str, .d (.int .u64), .d (.int .i64), .d .bool], [], fun x y => s x.1 x.2.1 x.2.2.1 x.2.2.2.1⟩] e
def sg4 (s : S4) : Seg := mkSg [1, 1, 100, 1] [] [0, 5, 6] [⟨[.d .str, .d (.int .u64), .d (.int .i64)], [], fun x y => s x.1 x.2.1 x.2.2.1⟩] e
section
variable {β : Type} (s0 : S0) (s1 : S1) (s2 : S2) (s3 : S3) (s4 : S4)
noncomputable abbrev env : FEnv := mkEnv prog f66 [] 0 [] [sg0 s0, sg1 s1, sg2 s2, sg3 s3, sg4 s4]
def c (a0 : ByteArray) (ret : (Int × ByteArray × Int) → Option β) : Option β := (bif ((0 : Int) == ((ByteArray.size a0) : Int)) then (ret ((0 : Int), (ByteArray.mk (List.toArray [])), (3 : Int))) else ((s0 a0 (0 : Int) (0 : Int) false).bind ret))
def s0c (x0 : ByteArray) (x1 : Int) (x2 : Int) (x3 : Bool) (ret : (Int × ByteArray × Int) → Option β) : Option β := (bif x3 then (ret ((0 : Int), (ByteArray.mk (List.toArray [])), (4 : Int))) else ((s1 x0 x1 x2).bind ret))
def s1c (x0 : ByteArray) (x1 : Int) (x2 : Int) (ret : (Int × ByteArray × Int) → Option β) : Option β := (bif ((decide ((0 : Int) ≤ x2)) && (decide (x2 < ((ByteArray.size x0) : Int)))) then (bif (decide ((0 : Int) ≤ (IntKind.wrap IntKind.i64 ((7 : Int) * x2)))) then (bif (decide ((bt x0 x2) > (127 : Int))) then ((s2 x0 (IntKind.wrap IntKind.u64 ((BitVec.toNat ((BitVec.ofInt (64 : Nat) x1) ||| (BitVec.ofInt (64 : Nat) (IntKind.wrap IntKind.u64 ((IntKind.wrap IntKind.u64 (IntKind.wrap IntKind.u8 ((BitVec.toNat ((BitVec.ofInt (8 : Nat) (bt x0 x2)) &&& (BitVec.ofInt (8 : Nat) (127 : Int)))) : Int))) * ((2 : Int) ^ (Min.min (Int.toNat (IntKind.wrap IntKind.i64 ((7 : Int) * x2))) (64 : Nat)))))))) : Int)) (IntKind.wrap IntKind.i64 (x2 + (1 : Int)))).bind ret) else (bif ((bt x0 x2) == (0 : Int)) then (bif (decide ((IntKind.wrap IntKind.i64 (x2 + (1 : Int))) > (1 : Int))) then (ret ((0 : Int), (ByteArray.mk (List.toArray [])), (4 : Int))) else (bif (((decide ((0 : Int) ≤ (IntKind.wrap IntKind.i64 (x2 + (1 : Int))))) && (decide ((IntKind.wrap IntKind.i64 (x2 + (1 : Int))) ≤ ((ByteArray.size x0) : Int)))) && (decide (((ByteArray.size x0) : Int) ≤ ((ByteArray.size x0) : Int)))) then (ret ((IntKind.wrap IntKind.u64 ((BitVec.toNat ((BitVec.ofInt (64 : Nat) x1) ||| (BitVec.ofInt (64 : Nat) (IntKind.wrap IntKind.u64 ((IntKind.wrap IntKind.u64 (IntKind.wrap IntKind.u8 ((BitVec.toNat ((BitVec.ofInt (8 : Nat) (bt x0 x2)) &&& (BitVec.ofInt (8 : Nat) (127 : Int)))) : Int))) * ((2 : Int) ^ (Min.min (Int.toNat (IntKind.wrap IntKind.i64 ((7 : Int) * x2))) (64 : Nat)))))))) : Int)), (ByteArray.extract x0 (Int.toNat (IntKind.wrap IntKind.i64 (x2 + (1 : Int)))) (Int.toNat ((ByteArray.size x0) : Int))), (0 : Int))) else none)) else (bif (((decide ((0 : Int) ≤ (IntKind.wrap IntKind.i64 (x2 + (1 : Int))))) && (decide ((IntKind.wrap IntKind.i64 (x2 + (1 : Int))) ≤ ((ByteArray.size x0) : Int)))) && (decide (((ByteArray.size x0) : Int) ≤ ((ByteArray.size x0) : Int)))) then (ret ((IntKind.wrap IntKind.u64 ((BitVec.toNat ((BitVec.ofInt (64 : Nat) x1) ||| (BitVec.ofInt (64 : Nat) (IntKind.wrap IntKind.u64 ((IntKind.wrap IntKind.u64 (IntKind.wrap IntKind.u8 ((BitVec.toNat ((BitVec.ofInt (8 : Nat) (bt x0 x2)) &&& (BitVec.ofInt (8 : Nat) (127 : Int)))) : Int))) * ((2 : Int) ^ (Min.min (Int.toNat (IntKind.wrap IntKind.i64 ((7 : Int) * x2))) (64 : Nat)))))))) : Int)), (ByteArray.extract x0 (Int.toNat (IntKind.wrap IntKind.i64 (x2 + (1 : Int)))) (Int.toNat ((ByteArray.size x0) : Int))), (0 : Int))) else none))) else none) else none)
def s2c (x0 : ByteArray) (x1 : Int) (x2 : Int) (ret : (Int × ByteArray × Int) → Option β) : Option β := (bif (x2 == ((ByteArray.size x0) : Int)) then (ret ((0 : Int), (ByteArray.mk (List.toArray [])), (3 : Int))) else (bif (x2 == (9 : Int)) then (bif ((decide ((0 : Int) ≤ x2)) && (decide (x2 < ((ByteArray.size x0) : Int)))) then ((s3 x0 x1 x2 (decide ((bt x0 x2) > (1 : Int)))).bind ret) else none) else ((s3 x0 x1 x2 false).bind ret)))
def s3c (x0 : ByteArray) (x1 : Int) (x2 : Int) (x3 : Bool) (ret : (Int × ByteArray × Int) → Option β) : Option β := (bif x3 then (ret ((0 : Int), (ByteArray.mk (List.toArray [])), (4 : Int))) else ((s4 x0 x1 x2).bind ret))
def s4c (x0 : ByteArray) (x1 : Int) (x2 : Int) (ret : (Int × ByteArray × Int) → Option β) : Option β := (bif ((decide ((0 : Int) ≤ x2)) && (decide (x2 < ((ByteArray.size x0) : Int)))) then (bif (decide ((0 : Int) ≤ (IntKind.wrap IntKind.i64 ((7 : Int) * x2)))) then (bif (decide ((bt x0 x2) > (127 : Int))) then ((s2 x0 (IntKind.wrap IntKind.u64 ((BitVec.toNat ((BitVec.ofInt (64 : Nat) x1) ||| (BitVec.ofInt (64 : Nat) (IntKind.wrap IntKind.u64 ((IntKind.wrap IntKind.u64 (IntKind.wrap IntKind.u8 ((BitVec.toNat ((BitVec.ofInt (8 : Nat) (bt x0 x2)) &&& (BitVec.ofInt (8 : Nat) (127 : Int)))) : Int))) * ((2 : Int) ^ (Min.min (Int.toNat (IntKind.wrap IntKind.i64 ((7 : Int) * x2))) (64 : Nat)))))))) : Int)) (IntKind.wrap IntKind.i64 (x2 + (1 : Int)))).bind ret) else (bif ((bt x0 x2) == (0 : Int)) then (bif (decide ((IntKind.wrap IntKind.i64 (x2 + (1 : Int))) > (1 : Int))) then (ret ((0 : Int), (ByteArray.mk (List.toArray [])), (4 : Int))) else (bif (((decide ((0 : Int) ≤ (IntKind.wrap IntKind.i64 (x2 + (1 : Int))))) && (decide ((IntKind.wrap IntKind.i64 (x2 + (1 : Int))) ≤ ((ByteArray.size x0) : Int)))) && (decide (((ByteArray.size x0) : Int) ≤ ((ByteArray.size x0) : Int)))) then (ret ((IntKind.wrap IntKind.u64 ((BitVec.toNat ((BitVec.ofInt (64 : Nat) x1) ||| (BitVec.ofInt (64 : Nat) (IntKind.wrap IntKind.u64 ((IntKind.wrap IntKind.u64 (IntKind.wrap IntKind.u8 ((BitVec.toNat ((BitVec.ofInt (8 : Nat) (bt x0 x2)) &&& (BitVec.ofInt (8 : Nat) (127 : Int)))) : Int))) * ((2 : Int) ^ (Min.min (Int.toNat (IntKind.wrap IntKind.i64 ((7 : Int) * x2))) (64 : Nat)))))))) : Int)), (ByteArray.extract x0 (Int.toNat (IntKind.wrap IntKind.i64 (x2 + (1 : Int)))) (Int.toNat ((ByteArray.size x0) : Int))), (0 : Int))) else none)) else (bif (((decide ((0 : Int) ≤ (IntKind.wrap IntKind.i64 (x2 + (1 : Int))))) && (decide ((IntKind.wrap IntKind.i64 (x2 + (1 : Int))) ≤ ((ByteArray.size x0) : Int)))) && (decide (((ByteArray.size x0) : Int) ≤ ((ByteArray.size x0) : Int)))) then (ret ((IntKind.wrap IntKind.u64 ((BitVec.toNat ((BitVec.ofInt (64 : Nat) x1) ||| (BitVec.ofInt (64 : Nat) (IntKind.wrap IntKind.u64 ((IntKind.wrap IntKind.u64 (IntKind.wrap IntKind.u8 ((BitVec.toNat ((BitVec.ofInt (8 : Nat) (bt x0 x2)) &&& (BitVec.ofInt (8 : Nat) (127 : Int)))) : Int))) * ((2 : Int) ^ (Min.min (Int.toNat (IntKind.wrap IntKind.i64 ((7 : Int) * x2))) (64 : Nat)))))))) : Int)), (ByteArray.extract x0 (Int.toNat (IntKind.wrap IntKind.i64 (x2 + (1 : Int)))) (Int.toNat ((ByteArray.size x0) : Int))), (0 : Int))) else none))) else none) else none)
variable {s0} {s1} {s2} {s3} {s4}
theorem ev : EvA (env s0 s1 s2 s3 s4) [] [0] e ⟨[.d .str], [], fun x y => c s0 x.1 some⟩ := fun x y => Eq.trans (b := c s0 x.1 fun r => some (e r)) (by kernel_rfl) (by simp only [c, bif_bind, sum_bind, oa, os, on, ofs])
theorem s0_ev : EvA (env s0 s1 s2 s3 s4) [1, 3, 1, 4, 0, 1, 1, 1, 6, 1] [0, 5, 6, 13] e ⟨[.d .str, .d (.int .u64), .d (.int .i64), .d .bool], [], fun x y => s0c s1 x.1 x.2.1 x.2.2.1 x.2.2.2.1 some⟩ := fun x y => Eq.trans (b := s0c s1 x.1 x.2.1 x.2.2.1 x.2.2.2.1 fun r => some (e r)) (by kernel_rfl) (by simp only [s0c, bif_bind, sum_bind, oa, os, on, ofs])
theorem s1_ev : EvA (env s0 s1 s2 s3 s4) [1, 1, 1, 1, 6, 1] [0, 5, 6] e ⟨[.d .str, .d (.int .u64), .d (.int .i64)], [], fun x y => s1c s2 x.1 x.2.1 x.2.2.1 some⟩ := fun x y => Eq.trans (b := s1c s2 x.1 x.2.1 x.2.2.1 fun r => some (e r)) (by kernel_rfl) (by simp only [s1c, bif_bind, sum_bind, oa, os, on, ofs])
theorem s2_ev : EvA (env s0 s1 s2 s3 s4) [100, 1] [0, 5, 6] e ⟨[.d .str, .d (.int .u64), .d (.int .i64)], [], fun x y => s2c s3 x.1 x.2.1 x.2.2.1 some⟩ := fun x y => Eq.trans (b := s2c s3 x.1 x.2.1 x.2.2.1 fun r => some (e r)) (by kernel_rfl) (by simp only [s2c, bif_bind, sum_bind, oa, os, on, ofs])
theorem s3_ev : EvA (env s0 s1 s2 s3 s4) [1, 3, 1, 4, 0, 1, 100, 1] [0, 5, 6, 13] e ⟨[.d .str, .d (.int .u64), .d (.int .i64), .d .bool], [], fun x y => s3c s4 x.1 x.2.1 x.2.2.1 x.2.2.2.1 some⟩ := fun x y => Eq.trans (b := s3c s4 x.1 x.2.1 x.2.2.1 x.2.2.2.1 fun r => some (e r)) (by kernel_rfl) (by simp only [s3c, bif_bind, sum_bind, oa, os, on, ofs])
theorem s4_ev : EvA (env s0 s1 s2 s3 s4) [1, 1, 100, 1] [0, 5, 6] e ⟨[.d .str, .d (.int .u64), .d (.int .i64)], [], fun x y => s4c s2 x.1 x.2.1 x.2.2.1 some⟩ := fun x y => Eq.trans (b := s4c s2 x.1 x.2.1 x.2.2.1 fun r => some (e r)) (by kernel_rfl) (by simp only [s4c, bif_bind, sum_bind, oa, os, on, ofs])
end
mutual
def s0 : Nat → ByteArray → Int → Int → Bool → Option (Int × ByteArray × Int)
  | 0, _, _, _, _ => none
  | k + 1, x0, x1, x2, x3 => s0c (s1 k) x0 x1 x2 x3 some
def s1 : Nat → ByteArray → Int → Int → Option (Int × ByteArray × Int)
  | 0, _, _, _ => none
  | k + 1, x0, x1, x2 => s1c (s2 k) x0 x1 x2 some
def s2 : Nat → ByteArray → Int → Int → Option (Int × ByteArray × Int)
  | 0, _, _, _ => none
  | k + 1, x0, x1, x2 => s2c (s3 k) x0 x1 x2 some
def s3 : Nat → ByteArray → Int → Int → Bool → Option (Int × ByteArray × Int)
  | 0, _, _, _, _ => none
  | k + 1, x0, x1, x2, x3 => s3c (s4 k) x0 x1 x2 x3 some
def s4 : Nat → ByteArray → Int → Int → Option (Int × ByteArray × Int)
  | 0, _, _, _ => none
  | k + 1, x0, x1, x2 => s4c (s2 k) x0 x1 x2 some
end
def f (k : Nat) (a0 : ByteArray) : Option (Int × ByteArray × Int) := c (s0 k) a0 some
noncomputable abbrev E (k : Nat) : FEnv := env  (s0 k) (s1 k) (s2 k) (s3 k) (s4 k)
theorem hE (k : Nat) : EnvOK (E k).toEnv := ctsOK L.nil
theorem segs_ok : ∀ k, ∀ s ∈ [sg0 (s0 k), sg1 (s1 k), sg2 (s2 k), sg3 (s3 k), sg4 (s4 k)], SegB prog f66 0 s
  | 0 => (L.cons (sg_none (L.cons (fun _ _ => rfl) L.nil)) (L.cons (sg_none (L.cons (fun _ _ => rfl) L.nil)) (L.cons (sg_none (L.cons (fun _ _ => rfl) L.nil)) (L.cons (sg_none (L.cons (fun _ _ => rfl) L.nil)) (L.cons (sg_none (L.cons (fun _ _ => rfl) L.nil)) L.nil)))))
  | k + 1 => (L.cons (sg_ok (hE k) (segs_ok k) (L.cons s0_ev L.nil)) (L.cons (sg_ok (hE k) (segs_ok k) (L.cons s1_ev L.nil)) (L.cons (sg_ok (hE k) (segs_ok k) (L.cons s2_ev L.nil)) (L.cons (sg_ok (hE k) (segs_ok k) (L.cons s3_ev L.nil)) (L.cons (sg_ok (hE k) (segs_ok k) (L.cons s4_ev L.nil)) L.nil)))))
theorem ok (k : Nat) : CtOK prog 66 (ct (f k)) := fn_ok func66 rfl (by decide) (hE k) (segs_ok k) (L.cons ev L.nil)
end pack_ReadUint
namespace ops_reader_number
def e (r : Int × ByteArray × Int) : Res := ⟨.v (.one (.d (.int .i64) r.1)), [some (.box [(.d .str r.2.1), (.d (.int .i64) r.2.2)])]⟩
abbrev G : Type := Int → Int → ByteArray → Int → Option (Int × ByteArray × Int)
def ct (g : G) : Ct := mkCt 1 [] [⟨[.k (.ptr 0 0), .d (.int .i64), .d (.int .i64)], [.box [.g T_ops_reader]], fun x y => g x.2.1 x.2.2.1 y.1.1.1 y.1.1.2.1⟩] e
section
variable {β : Type} (g42 : ops_reader_fail.G) (g66 : pack_ReadUint.G)
noncomputable abbrev env : FEnv := mkEnv prog f39 [(42, ops_reader_fail.ct g42), (66, pack_ReadUint.ct g66)] 1 [] []
def c (a0 : Int) (a1 : Int) (a2 : ByteArray) (a3 : Int) (ret : (Int × ByteArray × Int) → Option β) : Option β := (bif (a3 != (0 : Int)) then (ret ((0 : Int), a2, a3)) else ((g66 a2).bind fun r0 => (bif (decide (r0.1 < (IntKind.wrap IntKind.u64 a0))) then ((g42 (1 : Int) r0.2.1 r0.2.2).bind fun r1 => (ret ((0 : Int), r1.1, r1.2))) else (bif (decide (r0.1 > (IntKind.wrap IntKind.u64 a1))) then ((g42 (1 : Int) r0.2.1 r0.2.2).bind fun r2 => (ret ((0 : Int), r2.1, r2.2))) else (ret ((IntKind.wrap IntKind.i64 r0.1), r0.2.1, r0.2.2))))))
variable {g42} {g66}
theorem ev : EvA (env g42 g66) [] [0, 1, 2] e ⟨[.k (.ptr 0 0), .d (.int .i64), .d (.int .i64)], [.box [.g T_ops_reader]], fun x y => c g42 g66 x.2.1 x.2.2.1 y.1.1.1 y.1.1.2.1 some⟩ := fun x y => Eq.trans (b := c g42 g66 x.2.1 x.2.2.1 y.1.1.1 y.1.1.2.1 fun r => some (e r)) (by kernel_rfl) (by simp only [c, bif_bind, sum_bind, oa, os, on, ofs])
end
def f (k : Nat) (a0 : Int) (a1 : Int) (a2 : ByteArray) (a3 : Int) : Option (Int × ByteArray × Int) := c (ops_reader_fail.f k) (pack_ReadUint.f k) a0 a1 a2 a3 some
noncomputable abbrev E (k : Nat) : FEnv := env (ops_reader_fail.f k) (pack_ReadUint.f k) 
theorem hE (k : Nat) : EnvOK (E k).toEnv := ctsOK (L.cons (ops_reader_fail.ok k) (L.cons (pack_ReadUint.ok k) L.nil))
theorem ok (k : Nat) : CtOK prog 39 (ct (f k)) := fn_ok func39 rfl (by decide) (hE k) L.nil (L.cons ev L.nil)
end ops_reader_number
namespace pack_ReadText
def e (r : ByteArray × ByteArray × Int) : Res := ⟨.tup [(.one (.d .str r.1)), (.one (.d .str r.2.1)), (.one (.d (.int .i64) r.2.2))], []⟩
abbrev G : Type := ByteArray → Option (ByteArray × ByteArray × Int)
def ct (g : G) : Ct := mkCt 0 [] [⟨[.d .str], [], fun x y => g x.1⟩] e
section
variable {β : Type} (g66 : pack_ReadUint.G)
noncomputable abbrev env : FEnv := mkEnv prog f67 [(66, pack_ReadUint.ct g66)] 0 [] []
def c (a0 : ByteArray) (ret : (ByteArray × ByteArray × Int) → Option β) : Option β := ((g66 a0).bind fun r0 => (bif (r0.2.2 != (0 : Int)) then (ret ((ByteArray.mk (List.toArray [])), (ByteArray.mk (List.toArray [])), r0.2.2)) else (bif (decide (r0.1 > (IntKind.wrap IntKind.u64 ((ByteArray.size r0.2.1) : Int)))) then (ret ((ByteArray.mk (List.toArray [])), (ByteArray.mk (List.toArray [])), (3 : Int))) else (bif ((true && (decide ((0 : Int) ≤ r0.1))) && (decide (r0.1 ≤ ((ByteArray.size r0.2.1) : Int)))) then (bif (((decide ((0 : Int) ≤ r0.1)) && (decide (r0.1 ≤ ((ByteArray.size r0.2.1) : Int)))) && (decide (((ByteArray.size r0.2.1) : Int) ≤ ((ByteArray.size r0.2.1) : Int)))) then (ret ((ByteArray.extract r0.2.1 (0 : Nat) (Int.toNat r0.1)), (ByteArray.extract r0.2.1 (Int.toNat r0.1) (Int.toNat ((ByteArray.size r0.2.1) : Int))), (0 : Int))) else none) else none))))
variable {g66}
theorem ev : EvA (env g66) [] [0] e ⟨[.d .str], [], fun x y => c g66 x.1 some⟩ := fun x y => Eq.trans (b := c g66 x.1 fun r => some (e r)) (by kernel_rfl) (by simp only [c, bif_bind, sum_bind, oa, os, on, ofs])
end
def f (k : Nat) (a0 : ByteArray) : Option (ByteArray × ByteArray × Int) := c (pack_ReadUint.f k) a0 some
noncomputable abbrev E (k : Nat) : FEnv := env (pack_ReadUint.f k) 
theorem hE (k : Nat) : EnvOK (E k).toEnv := ctsOK (L.cons (pack_ReadUint.ok k) L.nil)
theorem ok (k : Nat) : CtOK prog 67 (ct (f k)) := fn_ok func67 rfl (by decide) (hE k) L.nil (L.cons ev L.nil)
end pack_ReadText
namespace ops_reader_text
def e (r : ByteArray × ByteArray × Int) : Res := ⟨.v (.one (.d .str r.1)), [some (.box [(.d .str r.2.1), (.d (.int .i64) r.2.2)])]⟩
abbrev G : Type := ByteArray → Int → Option (ByteArray × ByteArray × Int)
def ct (g : G) : Ct := mkCt 1 [] [⟨[.k (.ptr 0 0)], [.box [.g T_ops_reader]], fun x y => g y.1.1.1 y.1.1.2.1⟩] e
section
variable {β : Type} (g67 : pack_ReadText.G)
noncomputable abbrev env : FEnv := mkEnv prog f40 [(67, pack_ReadText.ct g67)] 1 [] []
def c (a0 : ByteArray) (a1 : Int) (ret : (ByteArray × ByteArray × Int) → Option β) : Option β := (bif (a1 != (0 : Int)) then (ret ((ByteArray.mk (List.toArray [])), a0, a1)) else ((g67 a0).bind fun r0 => (ret (r0.1, r0.2.1, r0.2.2))))
variable {g67}
theorem ev : EvA (env g67) [] [0] e ⟨[.k (.ptr 0 0)], [.box [.g T_ops_reader]], fun x y => c g67 y.1.1.1 y.1.1.2.1 some⟩ := fun x y => Eq.trans (b := c g67 y.1.1.1 y.1.1.2.1 fun r => some (e r)) (by kernel_rfl) (by simp only [c, bif_bind, sum_bind, oa, os, on, ofs])
end
def f (k : Nat) (a0 : ByteArray) (a1 : Int) : Option (ByteArray × ByteArray × Int) := c (pack_ReadText.f k) a0 a1 some
noncomputable abbrev E (k : Nat) : FEnv := env (pack_ReadText.f k) 
theorem hE (k : Nat) : EnvOK (E k).toEnv := ctsOK (L.cons (pack_ReadText.ok k) L.nil)
theorem ok (k : Nat) : CtOK prog 40 (ct (f k)) := fn_ok func40 rfl (by decide) (hE k) L.nil (L.cons ev L.nil)
end ops_reader_text
namespace schema_reader_text
def e (r : ByteArray × ByteArray × Int) : Res := ⟨.v (.one (.d .str r.1)), [some (.box [(.d .str r.2.1), (.d (.int .i64) r.2.2)])]⟩
abbrev G : Type := ByteArray → Int → Option (ByteArray × ByteArray × Int)
def ct (g : G) : Ct := mkCt 1 [] [⟨[.k (.ptr 0 0)], [.box [.g T_ops_reader]], fun x y => g y.1.1.1 y.1.1.2.1⟩] e
section
variable {β : Type} (g67 : pack_ReadText.G)
noncomputable abbrev env : FEnv := mkEnv prog f94 [(67, pack_ReadText.ct g67)] 1 [] []
def c (a0 : ByteArray) (a1 : Int) (ret : (ByteArray × ByteArray × Int) → Option β) : Option β := (bif (a1 != (0 : Int)) then (ret ((ByteArray.mk (List.toArray [])), a0, a1)) else ((g67 a0).bind fun r0 => (ret (r0.1, r0.2.1, r0.2.2))))
variable {g67}
theorem ev : EvA (env g67) [] [0] e ⟨[.k (.ptr 0 0)], [.box [.g T_ops_reader]], fun x y => c g67 y.1.1.1 y.1.1.2.1 some⟩ := fun x y => Eq.trans (b := c g67 y.1.1.1 y.1.1.2.1 fun r => some (e r)) (by kernel_rfl) (by simp only [c, bif_bind, sum_bind, oa, os, on, ofs])
end
def f (k : Nat) (a0 : ByteArray) (a1 : Int) : Option (ByteArray × ByteArray × Int) := c (pack_ReadText.f k) a0 a1 some
noncomputable abbrev E (k : Nat) : FEnv := env (pack_ReadText.f k) 
theorem hE (k : Nat) : EnvOK (E k).toEnv := ctsOK (L.cons (pack_ReadText.ok k) L.nil)
theorem ok (k : Nat) : CtOK prog 94 (ct (f k)) := fn_ok func94 rfl (by decide) (hE k) L.nil (L.cons ev L.nil)
end schema_reader_text
namespace schema_reader_fail
def e (r : ByteArray × Int) : Res := ⟨.tup [], [some (.box [(.d .str r.1), (.d (.int .i64) r.2)])]⟩
abbrev G : Type := Int → ByteArray → Int → Option (ByteArray × Int)
def ct (g : G) : Ct := mkCt 1 [] [⟨[.k (.ptr 0 0), .d (.int .i64)], [.box [.g T_ops_reader]], fun x y => g x.2.1 y.1.1.1 y.1.1.2.1⟩] e
section
variable {β : Type} 
noncomputable abbrev env : FEnv := mkEnv prog f98 [] 1 [] []
def c (a0 : Int) (a1 : ByteArray) (a2 : Int) (ret : (ByteArray × Int) → Option β) : Option β := (bif (a2 == (0 : Int)) then (ret (a1, a0)) else (ret (a1, a2)))
theorem ev : EvA (env) [] [0, 1] e ⟨[.k (.ptr 0 0), .d (.int .i64)], [.box [.g T_ops_reader]], fun x y => c x.2.1 y.1.1.1 y.1.1.2.1 some⟩ := fun x y => Eq.trans (b := c x.2.1 y.1.1.1 y.1.1.2.1 fun r => some (e r)) (by kernel_rfl) (by simp only [c, bif_bind, sum_bind, oa, os, on, ofs])
end
def f (k : Nat) (a0 : Int) (a1 : ByteArray) (a2 : Int) : Option (ByteArray × Int) := c  a0 a1 a2 some
noncomputable abbrev E (k : Nat) : FEnv := env  
theorem hE (k : Nat) : EnvOK (E k).toEnv := ctsOK L.nil
theorem ok (k : Nat) : CtOK prog 98 (ct (f k)) := fn_ok func98 rfl (by decide) (hE k) L.nil (L.cons ev L.nil)
end schema_reader_fail
namespace schema_reader_uint
def e (r : Int × ByteArray × Int) : Res := ⟨.v (.one (.d (.int .i64) r.1)), [some (.box [(.d .str r.2.1), (.d (.int .i64) r.2.2)])]⟩
abbrev G : Type := Int → Int → ByteArray → Int → Option (Int × ByteArray × Int)
def ct (g : G) : Ct := mkCt 1 [] [⟨[.k (.ptr 0 0), .d (.int .u64), .d (.int .i64)], [.box [.g T_ops_reader]], fun x y => g x.2.1 x.2.2.1 y.1.1.1 y.1.1.2.1⟩] e
section
variable {β : Type} (g66 : pack_ReadUint.G) (g98 : schema_reader_fail.G)
noncomputable abbrev env : FEnv := mkEnv prog f95 [(66, pack_ReadUint.ct g66), (98, schema_reader_fail.ct g98)] 1 [] []
def c (a0 : Int) (a1 : Int) (a2 : ByteArray) (a3 : Int) (ret : (Int × ByteArray × Int) → Option β) : Option β := (bif (a3 != (0 : Int)) then (ret ((0 : Int), a2, a3)) else ((g66 a2).bind fun r0 => (bif (decide (r0.1 > a0)) then ((g98 a1 r0.2.1 r0.2.2).bind fun r1 => (ret ((0 : Int), r1.1, r1.2))) else (ret ((IntKind.wrap IntKind.i64 r0.1), r0.2.1, r0.2.2)))))
variable {g66} {g98}
theorem ev : EvA (env g66 g98) [] [0, 1, 2] e ⟨[.k (.ptr 0 0), .d (.int .u64), .d (.int .i64)], [.box [.g T_ops_reader]], fun x y => c g66 g98 x.2.1 x.2.2.1 y.1.1.1 y.1.1.2.1 some⟩ := fun x y => Eq.trans (b := c g66 g98 x.2.1 x.2.2.1 y.1.1.1 y.1.1.2.1 fun r => some (e r)) (by kernel_rfl) (by simp only [c, bif_bind, sum_bind, oa, os, on, ofs])
end
def f (k : Nat) (a0 : Int) (a1 : Int) (a2 : ByteArray) (a3 : Int) : Option (Int × ByteArray × Int) := c (pack_ReadUint.f k) (schema_reader_fail.f k) a0 a1 a2 a3 some
noncomputable abbrev E (k : Nat) : FEnv := env (pack_ReadUint.f k) (schema_reader_fail.f k) 
theorem hE (k : Nat) : EnvOK (E k).toEnv := ctsOK (L.cons (pack_ReadUint.ok k) (L.cons (schema_reader_fail.ok k) L.nil))
theorem ok (k : Nat) : CtOK prog 95 (ct (f k)) := fn_ok func95 rfl (by decide) (hE k) L.nil (L.cons ev L.nil)
end schema_reader_uint
namespace schema_reader_flag
def e (r : Bool × ByteArray × Int) : Res := ⟨.v (.one (.d .bool r.1)), [some (.box [(.d .str r.2.1), (.d (.int .i64) r.2.2)])]⟩
abbrev G : Type := ByteArray → Int → Option (Bool × ByteArray × Int)
def ct (g : G) : Ct := mkCt 1 [] [⟨[.k (.ptr 0 0)], [.box [.g T_ops_reader]], fun x y => g y.1.1.1 y.1.1.2.1⟩] e
section
variable {β : Type} (g98 : schema_reader_fail.G)
noncomputable abbrev env : FEnv := mkEnv prog f96 [(98, schema_reader_fail.ct g98)] 1 [] []
def c (a0 : ByteArray) (a1 : Int) (ret : (Bool × ByteArray × Int) → Option β) : Option β := (bif (a1 != (0 : Int)) then (ret (false, a0, a1)) else (bif ((ByteArray.toList a0) == (ByteArray.toList (ByteArray.mk (List.toArray [])))) then ((g98 (3 : Int) a0 a1).bind fun r0 => (ret (false, r0.1, r0.2))) else (bif (true && (decide ((0 : Int) < ((ByteArray.size a0) : Int)))) then (bif (decide ((bt a0 (0 : Int)) > (1 : Int))) then ((g98 (4 : Int) a0 a1).bind fun r1 => (ret (false, r1.1, r1.2))) else (bif (true && (decide ((0 : Int) < ((ByteArray.size a0) : Int)))) then (bif ((true && (decide ((1 : Int) ≤ ((ByteArray.size a0) : Int)))) && (decide (((ByteArray.size a0) : Int) ≤ ((ByteArray.size a0) : Int)))) then (ret (((bt a0 (0 : Int)) == (1 : Int)), (ByteArray.extract a0 (1 : Nat) (Int.toNat ((ByteArray.size a0) : Int))), a1)) else none) else none)) else none)))
variable {g98}
theorem ev : EvA (env g98) [] [0] e ⟨[.k (.ptr 0 0)], [.box [.g T_ops_reader]], fun x y => c g98 y.1.1.1 y.1.1.2.1 some⟩ := fun x y => Eq.trans (b := c g98 y.1.1.1 y.1.1.2.1 fun r => some (e r)) (by kernel_rfl) (by simp only [c, bif_bind, sum_bind, oa, os, on, ofs])
end
def f (k : Nat) (a0 : ByteArray) (a1 : Int) : Option (Bool × ByteArray × Int) := c (schema_reader_fail.f k) a0 a1 some
noncomputable abbrev E (k : Nat) : FEnv := env (schema_reader_fail.f k) 
theorem hE (k : Nat) : EnvOK (E k).toEnv := ctsOK (L.cons (schema_reader_fail.ok k) L.nil)
theorem ok (k : Nat) : CtOK prog 96 (ct (f k)) := fn_ok func96 rfl (by decide) (hE k) L.nil (L.cons ev L.nil)
end schema_reader_flag
namespace keycode_need
def e (r : Int) : Res := ⟨.v (.one (.d (.int .i64) r)), []⟩
abbrev G : Type := Int → Option Int
def ct (g : G) : Ct := mkCt 0 [] [⟨[.d (.int .i64)], [], fun x y => g x.1⟩] e
section
variable {β : Type} 
noncomputable abbrev env : FEnv := mkEnv prog f141 [] 0 [] []
def c (a0 : Int) (ret : Int → Option β) : Option β := (bif (a0 == (1 : Int)) then (ret ((1 : Int))) else (bif (a0 == (2 : Int)) then (bif (a0 == (2 : Int)) then (ret ((8 : Int))) else (ret ((0 : Int)))) else (bif (a0 == (3 : Int)) then (ret ((8 : Int))) else (ret ((0 : Int))))))
theorem ev : EvA (env) [] [0] e ⟨[.d (.int .i64)], [], fun x y => c x.1 some⟩ := fun x y => Eq.trans (b := c x.1 fun r => some (e r)) (by kernel_rfl) (by simp only [c, bif_bind, sum_bind, oa, os, on, ofs])
end
def f (k : Nat) (a0 : Int) : Option Int := c  a0 some
noncomputable abbrev E (k : Nat) : FEnv := env  
theorem hE (k : Nat) : EnvOK (E k).toEnv := ctsOK L.nil
theorem ok (k : Nat) : CtOK prog 141 (ct (f k)) := fn_ok func141 rfl (by decide) (hE k) L.nil (L.cons ev L.nil)
end keycode_need
namespace keycode_get8
def e (r : Int) : Res := ⟨.v (.one (.d (.int .u64) r)), []⟩
abbrev G : Type := ByteArray → Option Int
def ct (g : G) : Ct := mkCt 0 [] [⟨[.d .str], [], fun x y => g x.1⟩] e
abbrev S0 : Type := ByteArray → Int → Int → Option Int
def sg0 (s : S0) : Seg := mkSg [4, 1, 0, 1, 1] [] [0, 3, 5] [⟨[.d .str, .d (.int .u64), .d (.int .i64)], [], fun x y => s x.1 x.2.1 x.2.2.1⟩] e
section
variable {β : Type} (s0 : S0)
noncomputable abbrev env : FEnv := mkEnv prog f142 [] 0 [] [sg0 s0]
def c (a0 : ByteArray) (ret : Int → Option β) : Option β := ((s0 a0 (0 : Int) (0 : Int)).bind ret)
def s0c (x0 : ByteArray) (x1 : Int) (x2 : Int) (ret : Int → Option β) : Option β := (bif (decide (x2 < (8 : Int))) then (bif ((decide ((0 : Int) ≤ x2)) && (decide (x2 < ((ByteArray.size x0) : Int)))) then ((s0 x0 (IntKind.wrap IntKind.u64 ((BitVec.toNat ((BitVec.ofInt (64 : Nat) (IntKind.wrap IntKind.u64 (x1 * (256 : Int)))) ||| (BitVec.ofInt (64 : Nat) (IntKind.wrap IntKind.u64 (bt x0 x2))))) : Int)) (IntKind.wrap IntKind.i64 (x2 + (1 : Int)))).bind ret) else none) else (ret (x1)))
variable {s0}
theorem ev : EvA (env s0) [] [0] e ⟨[.d .str], [], fun x y => c s0 x.1 some⟩ := fun x y => Eq.trans (b := c s0 x.1 fun r => some (e r)) (by kernel_rfl) (by simp only [c, bif_bind, sum_bind, oa, os, on, ofs])
theorem s0_ev : EvA (env s0) [4, 1, 0, 1, 1] [0, 3, 5] e ⟨[.d .str, .d (.int .u64), .d (.int .i64)], [], fun x y => s0c s0 x.1 x.2.1 x.2.2.1 some⟩ := fun x y => Eq.trans (b := s0c s0 x.1 x.2.1 x.2.2.1 fun r => some (e r)) (by kernel_rfl) (by simp only [s0c, bif_bind, sum_bind, oa, os, on, ofs])
end
def s0 : Nat → ByteArray → Int → Int → Option Int
  | 0, _, _, _ => none
  | k + 1, x0, x1, x2 => s0c (s0 k) x0 x1 x2 some
def f (k : Nat) (a0 : ByteArray) : Option Int := c (s0 k) a0 some
noncomputable abbrev E (k : Nat) : FEnv := env  (s0 k)
theorem hE (k : Nat) : EnvOK (E k).toEnv := ctsOK L.nil
theorem segs_ok : ∀ k, ∀ s ∈ [sg0 (s0 k)], SegB prog f142 0 s
  | 0 => (L.cons (sg_none (L.cons (fun _ _ => rfl) L.nil)) L.nil)
  | k + 1 => (L.cons (sg_ok (hE k) (segs_ok k) (L.cons s0_ev L.nil)) L.nil)
theorem ok (k : Nat) : CtOK prog 142 (ct (f k)) := fn_ok func142 rfl (by decide) (hE k) (segs_ok k) (L.cons ev L.nil)
end keycode_get8
namespace reals_bytes
def e (r : Int × Int × Int × Int × Int × Int × Int × Int) : Res := ⟨.v (.agg [(.d (.int .u8) r.1), (.d (.int .u8) r.2.1), (.d (.int .u8) r.2.2.1), (.d (.int .u8) r.2.2.2.1), (.d (.int .u8) r.2.2.2.2.1), (.d (.int .u8) r.2.2.2.2.2.1), (.d (.int .u8) r.2.2.2.2.2.2.1), (.d (.int .u8) r.2.2.2.2.2.2.2)]), []⟩
abbrev G : Type := Int → Option (Int × Int × Int × Int × Int × Int × Int × Int)
def ct (g : G) : Ct := mkCt 0 [] [⟨[.d (.int .u64)], [], fun x y => g x.1⟩] e
section
variable {β : Type} 
noncomputable abbrev env : FEnv := mkEnv prog f152 [] 0 [] []
def c (a0 : Int) (ret : (Int × Int × Int × Int × Int × Int × Int × Int) → Option β) : Option β := (ret ((IntKind.wrap IntKind.u8 (Int.fdiv a0 (72057594037927936 : Int))), (IntKind.wrap IntKind.u8 (Int.fdiv a0 (281474976710656 : Int))), (IntKind.wrap IntKind.u8 (Int.fdiv a0 (1099511627776 : Int))), (IntKind.wrap IntKind.u8 (Int.fdiv a0 (4294967296 : Int))), (IntKind.wrap IntKind.u8 (Int.fdiv a0 (16777216 : Int))), (IntKind.wrap IntKind.u8 (Int.fdiv a0 (65536 : Int))), (IntKind.wrap IntKind.u8 (Int.fdiv a0 (256 : Int))), (IntKind.wrap IntKind.u8 (Int.fdiv a0 (1 : Int)))))
theorem ev : EvA (env) [] [0] e ⟨[.d (.int .u64)], [], fun x y => c x.1 some⟩ := fun x y => Eq.trans (b := c x.1 fun r => some (e r)) (by kernel_rfl) (by simp only [c, bif_bind, sum_bind, oa, os, on, ofs])
end
def f (k : Nat) (a0 : Int) : Option (Int × Int × Int × Int × Int × Int × Int × Int) := c  a0 some
noncomputable abbrev E (k : Nat) : FEnv := env  
theorem hE (k : Nat) : EnvOK (E k).toEnv := ctsOK L.nil
theorem ok (k : Nat) : CtOK prog 152 (ct (f k)) := fn_ok func152 rfl (by decide) (hE k) L.nil (L.cons ev L.nil)
end reals_bytes
namespace reals_Back
def e (r : Int × Bool) : Res := ⟨.tup [(.one (.d (.int .u64) r.1)), (.one (.d .bool r.2))], []⟩
abbrev G : Type := Int → Option (Int × Bool)
def ct (g : G) : Ct := mkCt 0 [] [⟨[.d (.int .u64)], [], fun x y => g x.1⟩] e
section
variable {β : Type} (g101 : reals_Canon.G) (g152 : reals_bytes.G)
noncomputable abbrev env : FEnv := mkEnv prog f143 [(101, reals_Canon.ct g101), (152, reals_bytes.ct g152)] 0 [] []
def c (a0 : Int) (ret : (Int × Bool) → Option β) : Option β := (bif ((IntKind.wrap IntKind.u64 ((BitVec.toNat ((BitVec.ofInt (64 : Nat) a0) &&& (BitVec.ofInt (64 : Nat) (9223372036854775808 : Int)))) : Int)) == (0 : Int)) then ((g101 (IntKind.wrap IntKind.u64 ((BitVec.toNat ((BitVec.ofInt (64 : Nat) (18446744073709551615 : Int)) ^^^ (BitVec.ofInt (64 : Nat) a0))) : Int))).bind fun r0 => ((g152 r0).bind fun r1 => ((g152 (IntKind.wrap IntKind.u64 ((BitVec.toNat ((BitVec.ofInt (64 : Nat) (18446744073709551615 : Int)) ^^^ (BitVec.ofInt (64 : Nat) a0))) : Int))).bind fun r2 => (bif (!((r1.1 == r2.1) && ((r1.2.1 == r2.2.1) && ((r1.2.2.1 == r2.2.2.1) && ((r1.2.2.2.1 == r2.2.2.2.1) && ((r1.2.2.2.2.1 == r2.2.2.2.2.1) && ((r1.2.2.2.2.2.1 == r2.2.2.2.2.2.1) && ((r1.2.2.2.2.2.2.1 == r2.2.2.2.2.2.2.1) && ((r1.2.2.2.2.2.2.2 == r2.2.2.2.2.2.2.2) && true))))))))) then (ret ((0 : Int), false)) else (ret ((IntKind.wrap IntKind.u64 ((BitVec.toNat ((BitVec.ofInt (64 : Nat) (18446744073709551615 : Int)) ^^^ (BitVec.ofInt (64 : Nat) a0))) : Int)), true)))))) else ((g101 (IntKind.wrap IntKind.u64 ((BitVec.toNat ((BitVec.ofInt (64 : Nat) a0) &&& (Complement.complement (BitVec.ofInt (64 : Nat) (9223372036854775808 : Int))))) : Int))).bind fun r3 => ((g152 r3).bind fun r4 => ((g152 (IntKind.wrap IntKind.u64 ((BitVec.toNat ((BitVec.ofInt (64 : Nat) a0) &&& (Complement.complement (BitVec.ofInt (64 : Nat) (9223372036854775808 : Int))))) : Int))).bind fun r5 => (bif (!((r4.1 == r5.1) && ((r4.2.1 == r5.2.1) && ((r4.2.2.1 == r5.2.2.1) && ((r4.2.2.2.1 == r5.2.2.2.1) && ((r4.2.2.2.2.1 == r5.2.2.2.2.1) && ((r4.2.2.2.2.2.1 == r5.2.2.2.2.2.1) && ((r4.2.2.2.2.2.2.1 == r5.2.2.2.2.2.2.1) && ((r4.2.2.2.2.2.2.2 == r5.2.2.2.2.2.2.2) && true))))))))) then (ret ((0 : Int), false)) else (ret ((IntKind.wrap IntKind.u64 ((BitVec.toNat ((BitVec.ofInt (64 : Nat) a0) &&& (Complement.complement (BitVec.ofInt (64 : Nat) (9223372036854775808 : Int))))) : Int)), true)))))))
variable {g101} {g152}
theorem ev : EvA (env g101 g152) [] [0] e ⟨[.d (.int .u64)], [], fun x y => c g101 g152 x.1 some⟩ := fun x y => Eq.trans (b := c g101 g152 x.1 fun r => some (e r)) (by kernel_rfl) (by simp only [c, bif_bind, sum_bind, oa, os, on, ofs])
end
def f (k : Nat) (a0 : Int) : Option (Int × Bool) := c (reals_Canon.f k) (reals_bytes.f k) a0 some
noncomputable abbrev E (k : Nat) : FEnv := env (reals_Canon.f k) (reals_bytes.f k) 
theorem hE (k : Nat) : EnvOK (E k).toEnv := ctsOK (L.cons (reals_Canon.ok k) (L.cons (reals_bytes.ok k) L.nil))
theorem ok (k : Nat) : CtOK prog 143 (ct (f k)) := fn_ok func143 rfl (by decide) (hE k) L.nil (L.cons ev L.nil)
end reals_Back
namespace keycode_plain
def e (r : ByteArray × ByteArray × Int) : Res := ⟨.tup [(.one (.d .str r.1)), (.one (.d .str r.2.1)), (.one (.d (.int .i64) r.2.2))], []⟩
abbrev G : Type := ByteArray → Option (ByteArray × ByteArray × Int)
def ct (g : G) : Ct := mkCt 0 [] [⟨[.d .str], [], fun x y => g x.1⟩] e
abbrev S0 : Type := ByteArray → Int → (List Int) → Option (ByteArray × ByteArray × Int)
abbrev S1 : Type := ByteArray → Int → (List Int) → Option (ByteArray × ByteArray × Int)
def sg0 (s : S0) : Seg := mkSg [4, 1, 0, 1, 1] [.own 5 (.int .u8)] [0, 5, 6] [⟨[.d .str, .k (.own 0), .d (.int .i64)], [.own (.int .u8) false], fun x y => s x.1 x.2.2.1 y.1⟩] e
def sg1 (s : S1) : Seg := mkSg [1, 1, 5, 4, 1, 0, 1, 1] [] [0, 5, 6] [⟨[.d .str, .k (.own 0), .d (.int .i64)], [.own (.int .u8) false], fun x y => s x.1 x.2.2.1 y.1⟩] e
section
variable {β : Type} (s0 : S0) (s1 : S1)
noncomputable abbrev env : FEnv := mkEnv prog f144 [] 0 [] [sg0 s0, sg1 s1]
def c (a0 : ByteArray) (ret : (ByteArray × ByteArray × Int) → Option β) : Option β := ((s0 a0 (0 : Int) []).bind ret)
def s0c (x0 : ByteArray) (x1 : Int) (x2 : List Int) (ret : (ByteArray × ByteArray × Int) → Option β) : Option β := (bif (decide (x1 < ((ByteArray.size x0) : Int))) then (bif ((decide ((0 : Int) ≤ x1)) && (decide (x1 < ((ByteArray.size x0) : Int)))) then (bif ((bt x0 x1) != (0 : Int)) then (bif ((decide ((0 : Int) ≤ x1)) && (decide (x1 < ((ByteArray.size x0) : Int)))) then (bif (decide ((((List.length x2) + (1 : Nat)) * (1 : Nat)) ≤ (35184372088832 : Nat))) then ((s1 x0 x1 (x2 ++ [(bt x0 x1)])).bind ret) else none) else none) else (bif ((IntKind.wrap IntKind.i64 (x1 + (1 : Int))) == ((ByteArray.size x0) : Int)) then (ret ((ByteArray.mk (List.toArray [])), (ByteArray.mk (List.toArray [])), (3 : Int))) else (bif ((decide ((0 : Int) ≤ (IntKind.wrap IntKind.i64 (x1 + (1 : Int))))) && (decide ((IntKind.wrap IntKind.i64 (x1 + (1 : Int))) < ((ByteArray.size x0) : Int)))) then (bif ((bt x0 (IntKind.wrap IntKind.i64 (x1 + (1 : Int)))) == (0 : Int)) then (bif (((decide ((0 : Int) ≤ (IntKind.wrap IntKind.i64 (x1 + (2 : Int))))) && (decide ((IntKind.wrap IntKind.i64 (x1 + (2 : Int))) ≤ ((ByteArray.size x0) : Int)))) && (decide (((ByteArray.size x0) : Int) ≤ ((ByteArray.size x0) : Int)))) then (ret ((ByteArray.mk (List.toArray (List.map (fun n => (UInt8.ofNat (Int.toNat n))) x2))), (ByteArray.extract x0 (Int.toNat (IntKind.wrap IntKind.i64 (x1 + (2 : Int)))) (Int.toNat ((ByteArray.size x0) : Int))), (0 : Int))) else none) else (bif ((decide ((0 : Int) ≤ (IntKind.wrap IntKind.i64 (x1 + (1 : Int))))) && (decide ((IntKind.wrap IntKind.i64 (x1 + (1 : Int))) < ((ByteArray.size x0) : Int)))) then (bif ((bt x0 (IntKind.wrap IntKind.i64 (x1 + (1 : Int)))) != (255 : Int)) then (ret ((ByteArray.mk (List.toArray [])), (ByteArray.mk (List.toArray [])), (4 : Int))) else (bif (decide ((((List.length x2) + (1 : Nat)) * (1 : Nat)) ≤ (35184372088832 : Nat))) then ((s1 x0 (IntKind.wrap IntKind.i64 (x1 + (1 : Int))) (x2 ++ [(0 : Int)])).bind ret) else none)) else none)) else none))) else none) else (ret ((ByteArray.mk (List.toArray [])), (ByteArray.mk (List.toArray [])), (3 : Int))))
def s1c (x0 : ByteArray) (x1 : Int) (x2 : List Int) (ret : (ByteArray × ByteArray × Int) → Option β) : Option β := ((s0 x0 (IntKind.wrap IntKind.i64 (x1 + (1 : Int))) x2).bind ret)
variable {s0} {s1}
theorem ev : EvA (env s0 s1) [] [0] e ⟨[.d .str], [], fun x y => c s0 x.1 some⟩ := fun x y => Eq.trans (b := c s0 x.1 fun r => some (e r)) (by kernel_rfl) (by simp only [c, bif_bind, sum_bind, oa, os, on, ofs])
theorem s0_ev : EvA (env s0 s1) [4, 1, 0, 1, 1] [0, 5, 6] e ⟨[.d .str, .k (.own 0), .d (.int .i64)], [.own (.int .u8) false], fun x y => s0c s1 x.1 x.2.2.1 y.1 some⟩ := fun x y => Eq.trans (b := s0c s1 x.1 x.2.2.1 y.1 fun r => some (e r)) (by kernel_rfl) (by simp only [s0c, bif_bind, sum_bind, oa, os, on, ofs])
theorem s1_ev : EvA (env s0 s1) [1, 1, 5, 4, 1, 0, 1, 1] [0, 5, 6] e ⟨[.d .str, .k (.own 0), .d (.int .i64)], [.own (.int .u8) false], fun x y => s1c s0 x.1 x.2.2.1 y.1 some⟩ := fun x y => Eq.trans (b := s1c s0 x.1 x.2.2.1 y.1 fun r => some (e r)) (by kernel_rfl) (by simp only [s1c, bif_bind, sum_bind, oa, os, on, ofs])
end
mutual
def s0 : Nat → ByteArray → Int → (List Int) → Option (ByteArray × ByteArray × Int)
  | 0, _, _, _ => none
  | k + 1, x0, x1, x2 => s0c (s1 k) x0 x1 x2 some
def s1 : Nat → ByteArray → Int → (List Int) → Option (ByteArray × ByteArray × Int)
  | 0, _, _, _ => none
  | k + 1, x0, x1, x2 => s1c (s0 k) x0 x1 x2 some
end
def f (k : Nat) (a0 : ByteArray) : Option (ByteArray × ByteArray × Int) := c (s0 k) a0 some
noncomputable abbrev E (k : Nat) : FEnv := env  (s0 k) (s1 k)
theorem hE (k : Nat) : EnvOK (E k).toEnv := ctsOK L.nil
theorem segs_ok : ∀ k, ∀ s ∈ [sg0 (s0 k), sg1 (s1 k)], SegB prog f144 0 s
  | 0 => (L.cons (sg_none (L.cons (fun _ _ => rfl) L.nil)) (L.cons (sg_none (L.cons (fun _ _ => rfl) L.nil)) L.nil))
  | k + 1 => (L.cons (sg_ok (hE k) (segs_ok k) (L.cons s0_ev L.nil)) (L.cons (sg_ok (hE k) (segs_ok k) (L.cons s1_ev L.nil)) L.nil))
theorem ok (k : Nat) : CtOK prog 144 (ct (f k)) := fn_ok func144 rfl (by decide) (hE k) (segs_ok k) (L.cons ev L.nil)
end keycode_plain
end Go.Proofs.YtaehpfmnejeddaaGreatDoor.Aev
