import Derived.Test.YtaehpfmnejeddaaGreatDoorTys
import Derived.Test.YtaehpfmnejeddaaGreatDoorProg
import Derived.Laws.Externs
import Derived.Lib.Bytealg
import Derived.Test.YtaehpfmnejeddaaGreatDoorF0
import Derived.Test.YtaehpfmnejeddaaGreatDoorF1
import Derived.Test.YtaehpfmnejeddaaGreatDoorF3
import Derived.Test.YtaehpfmnejeddaaGreatDoorF4
/- By a program of this session (AEV): functions of the program as plain functions, and that the machine does what they say. -/
namespace Go.Proofs.YtaehpfmnejeddaaGreatDoor.Aev
set_option linter.unusedVariables false
set_option linter.unusedSimpArgs false
set_option maxRecDepth 100000
set_option maxHeartbeats 4000000
open Go Go.Proofs.Tryz
namespace rows_Put
abbrev R : Type := ByteArray × Int
def e (r : R) : Res := ⟨.tup [(.one (.d .str r.1)), (.one (.d (.int .i64) r.2))], []⟩
abbrev T (δ : Type) : Type := (List D_api_Value) → Option δ
abbrev A {δ : Type} (g : T δ) : Arm δ := ⟨[.d (.sl T_api_Value)], [], fun x y => g x.1⟩
abbrev G : Type := T R
def ct (g : G) : Ct := mkCt 0 [] [A g] e
abbrev S0 (δ : Type) : Type := ByteArray → (List D_api_Value) → Int → Int → Option δ
abbrev A_0 {δ : Type} (s : S0 δ) : Arm δ := ⟨[.d .str, .d (.sl T_api_Value), .d (.int .i64), .d (.int .i64)], [], fun x y => s x.1 x.2.1 x.2.2.1 x.2.2.2.1⟩
def sg0 (s : S0 R) : Seg := mkSg [4, 1, 0, 1, 1, 1] [] [4, 15, 16, 17] [A_0 s] e
section
variable {β : Type} (g31 : pack_Uint.G) (g74 : values_Check.G) (g75 : rows_put.G) (s0 : S0 R)
noncomputable abbrev env : FEnv := mkEnv prog f52 [(31, pack_Uint.ct g31), (74, values_Check.ct g74), (75, rows_put.ct g75)] 0 [] [sg0 s0]
def c (ret : R → Option β) (a0 : List D_api_Value) : Option β := (bif (decide ((a0.length : Int) > (8 : Int))) then (ret ((ByteArray.mk (List.toArray [])), (2 : Int))) else ((g31 (IntKind.wrap .u64 (a0.length : Int))).bind fun r0 => ((s0 r0 a0 (a0.length : Int) (0 : Int)).bind ret)))
def s0c (ret : R → Option β) (x0 : ByteArray) (x1 : List D_api_Value) (x2 : Int) (x3 : Int) : Option β := (bif (decide (x3 < x2)) then (bif ((decide ((0 : Int) ≤ x3)) && (decide (x3 < (x1.length : Int)))) then ((g74 (elem T_api_Value x1 x3).1 (elem T_api_Value x1 x3).2.1 (elem T_api_Value x1 x3).2.2.1 (elem T_api_Value x1 x3).2.2.2.1).bind fun r0 => (bif (r0 != (0 : Int)) then (ret ((ByteArray.mk (List.toArray [])), r0)) else ((g75 (elem T_api_Value x1 x3).1 (elem T_api_Value x1 x3).2.1 (elem T_api_Value x1 x3).2.2.1 (elem T_api_Value x1 x3).2.2.2.1).bind fun r1 => (bif ((decide (x0.size ≤ (4611686018427387903 : Nat))) && (decide (r1.size ≤ (4611686018427387903 : Nat)))) then ((s0 (x0 ++ r1) x1 x2 (IntKind.wrap .i64 (x3 + (1 : Int)))).bind ret) else none)))) else none) else (ret (x0, (0 : Int))))
variable {g31} {g74} {g75} {s0}
theorem ev : EvA (env g31 g74 g75 s0) [] [0] e (A (c g31 s0 some)) := fun x y => Eq.trans (b := (A (c g31 s0 fun r => some (e r))).G x y) (by kernel_rfl) (by simp only [A, c, bo, sum_bind, oa, os, on, ofs])
theorem s0_ev : EvA (env g31 g74 g75 s0) [4, 1, 0, 1, 1, 1] [4, 15, 16, 17] e (A_0 (s0c g74 g75 s0 some)) := fun x y => Eq.trans (b := (A_0 (s0c g74 g75 s0 fun r => some (e r))).G x y) (by kernel_rfl) (by simp only [A_0, s0c, bo, sum_bind, oa, os, on, ofs])
end
def s0 : Nat → S0 R
 | 0, _, _, _, _ => none
 | k + 1, x0, x1, x2, x3 => s0c (values_Check.f k) (rows_put.f k) (s0 k) some x0 x1 x2 x3
def f (k : Nat) (a0 : List D_api_Value) : Option R := c (pack_Uint.f k) (s0 k) some a0
noncomputable abbrev E (k : Nat) : FEnv := env (pack_Uint.f k) (values_Check.f k) (rows_put.f k) (s0 k)
theorem hE (k : Nat) : EnvOK (E k).toEnv := ctsOK (Lc (pack_Uint.ok k) (Lc (values_Check.ok k) (Lc (rows_put.ok k) L0)))
theorem sk : ∀ k, ∀ s ∈ [sg0 (s0 k)], SegB prog f52 0 s
 | 0 => (Lc (sn (Lc (fun _ _ => rfl) L0)) L0)
 | k + 1 => (Lc (sg_ok (hE k) (sk k) (Lc s0_ev L0)) L0)
theorem ok (k : Nat) : CtOK prog 52 (ct (f k)) := fn_ok func52 rfl (by decide) (hE k) (sk k) (Lc ev L0)
end rows_Put
namespace ops_Put
abbrev R : Type := ByteArray × Int
def e (r : R) : Res := ⟨.tup [(.one (.d .str r.1)), (.one (.d (.int .i64) r.2))], []⟩
abbrev T (δ : Type) : Type := D_api_Op → Option δ
abbrev A {δ : Type} (g : T δ) : Arm δ := ⟨[.s T_api_Op], [], fun x y => g x.1.1⟩
abbrev G : Type := T R
def ct (g : G) : Ct := mkCt 0 [] [A g] e
abbrev S0 (δ : Type) : Type := Bool → D_api_Op → Option δ
abbrev A_0 {δ : Type} (s : S0 δ) : Arm δ := ⟨[.k (.ptr 0 0), .d .bool], [.box [.g T_api_Op]], fun x y => s x.2.1 y.1.1⟩
abbrev S1 (δ : Type) : Type := D_api_Op → Option δ
abbrev A_1 {δ : Type} (s : S1 δ) : Arm δ := ⟨[.k (.ptr 0 0)], [.box [.g T_api_Op]], fun x y => s y.1.1⟩
def sg0 (s : S0 R) : Seg := mkSg [1, 4, 0, 1] [] [1, 11] [A_0 s] e
def sg1 (s : S1 R) : Seg := mkSg [1, 1] [] [1] [A_1 s] e
section
variable {β : Type} (g10 : ops_PutChange.G) (g31 : pack_Uint.G) (g33 : pack_Text.G) (g50 : ops_long.G) (g51_0 : ops_lists.G0) (g51_1 : ops_lists.G1) (g52 : rows_Put.G) (s0 : S0 R) (s1 : S1 R)
noncomputable abbrev env : FEnv := mkEnv prog f16 [(10, ops_PutChange.ct g10), (31, pack_Uint.ct g31), (33, pack_Text.ct g33), (50, ops_long.ct g50), (51, ops_lists.ct g51_0 g51_1), (52, rows_Put.ct g52)] 0 [] [sg0 s0, sg1 s1]
def c (ret : R → Option β) (a0 : D_api_Op) : Option β := (bif (decide (a0.1 < (1 : Int))) then ((s0 true a0).bind ret) else (bif (decide (a0.1 > (9 : Int))) then ((s0 true a0).bind ret) else (bif (decide (a0.2.2.2.2.2.1 < (0 : Int))) then ((s0 true a0).bind ret) else ((s0 (decide (a0.2.2.2.2.2.1 > (64 : Int))) a0).bind ret))))
def s0c (ret : R → Option β) (x0 : Bool) (x1 : D_api_Op) : Option β := (bif x0 then (ret ((ByteArray.mk (List.toArray [])), (1 : Int))) else ((g50 x1.2.1).bind fun r0 => (bif r0 then (ret ((ByteArray.mk (List.toArray [])), (8 : Int))) else ((s1 x1).bind ret))))
def s1c (ret : R → Option β) (x0 : D_api_Op) : Option β := ((g31 (IntKind.wrap .u64 x0.1)).bind fun r0 => ((g33 x0.2.1).bind fun r1 => (bif ((decide (r0.size ≤ (4611686018427387903 : Nat))) && (decide (r1.size ≤ (4611686018427387903 : Nat)))) then ((g51_0 x0).bind fun r2 => ((g52 r2.2.2.1).bind fun r3 => (bif (r3.2 != (0 : Int)) then (ret ((ByteArray.mk (List.toArray [])), r3.2)) else ((g33 r3.1).bind fun r4 => (bif ((decide ((ByteArray.size (r0 ++ r1)) ≤ (4611686018427387903 : Nat))) && (decide (r4.size ≤ (4611686018427387903 : Nat)))) then ((g52 r2.2.2.2.1).bind fun r5 => (bif (r5.2 != (0 : Int)) then (ret ((ByteArray.mk (List.toArray [])), r5.2)) else ((g33 r5.1).bind fun r6 => (bif ((decide ((ByteArray.size ((r0 ++ r1) ++ r4)) ≤ (4611686018427387903 : Nat))) && (decide (r6.size ≤ (4611686018427387903 : Nat)))) then ((g52 r2.2.2.2.2.1).bind fun r7 => (bif (r7.2 != (0 : Int)) then (ret ((ByteArray.mk (List.toArray [])), r7.2)) else ((g33 r7.1).bind fun r8 => (bif ((decide ((ByteArray.size (((r0 ++ r1) ++ r4) ++ r6)) ≤ (4611686018427387903 : Nat))) && (decide (r8.size ≤ (4611686018427387903 : Nat)))) then ((g31 (IntKind.wrap .u64 r2.2.2.2.2.2.1)).bind fun r9 => (bif ((decide ((ByteArray.size ((((r0 ++ r1) ++ r4) ++ r6) ++ r8)) ≤ (4611686018427387903 : Nat))) && (decide (r9.size ≤ (4611686018427387903 : Nat)))) then (bif (r2.1 != (6 : Int)) then (ret ((((((r0 ++ r1) ++ r4) ++ r6) ++ r8) ++ r9), (0 : Int))) else ((g10 r2.2.2.2.2.2.2.1).bind fun r10 => (bif (r10.2 != (0 : Int)) then (ret ((ByteArray.mk (List.toArray [])), r10.2)) else (bif ((decide ((ByteArray.size (((((r0 ++ r1) ++ r4) ++ r6) ++ r8) ++ r9)) ≤ (4611686018427387903 : Nat))) && (decide (r10.1.size ≤ (4611686018427387903 : Nat)))) then (ret (((((((r0 ++ r1) ++ r4) ++ r6) ++ r8) ++ r9) ++ r10.1), (0 : Int))) else none)))) else none)) else none)))) else none)))) else none))))) else none)))
variable {g10} {g31} {g33} {g50} {g51_0} {g51_1} {g52} {s0} {s1}
theorem ev : EvA (env g10 g31 g33 g50 g51_0 g51_1 g52 s0 s1) [] [0] e (A (c s0 some)) := fun x y => Eq.trans (b := (A (c s0 fun r => some (e r))).G x y) (by kernel_rfl) (by simp only [A, c, bo, sum_bind, oa, os, on, ofs])
theorem s0_ev : EvA (env g10 g31 g33 g50 g51_0 g51_1 g52 s0 s1) [1, 4, 0, 1] [1, 11] e (A_0 (s0c g50 s1 some)) := fun x y => Eq.trans (b := (A_0 (s0c g50 s1 fun r => some (e r))).G x y) (by kernel_rfl) (by simp only [A_0, s0c, bo, sum_bind, oa, os, on, ofs])
theorem s1_ev : EvA (env g10 g31 g33 g50 g51_0 g51_1 g52 s0 s1) [1, 1] [1] e (A_1 (s1c g10 g31 g33 g51_0 g52 some)) := fun x y => Eq.trans (b := (A_1 (s1c g10 g31 g33 g51_0 g52 fun r => some (e r))).G x y) (by kernel_rfl) (by simp only [A_1, s1c, bo, sum_bind, oa, os, on, ofs])
end
mutual
def s0 : Nat → S0 R
 | 0, _, _ => none
 | k + 1, x0, x1 => s0c (ops_long.f k) (s1 k) some x0 x1
def s1 : Nat → S1 R
 | 0, _ => none
 | k + 1, x0 => s1c (ops_PutChange.f k) (pack_Uint.f k) (pack_Text.f k) (ops_lists.f0 k) (rows_Put.f k) some x0
end
def f (k : Nat) (a0 : D_api_Op) : Option R := c (s0 k) some a0
noncomputable abbrev E (k : Nat) : FEnv := env (ops_PutChange.f k) (pack_Uint.f k) (pack_Text.f k) (ops_long.f k) (ops_lists.f0 k) (ops_lists.f1 k) (rows_Put.f k) (s0 k) (s1 k)
theorem hE (k : Nat) : EnvOK (E k).toEnv := ctsOK (Lc (ops_PutChange.ok k) (Lc (pack_Uint.ok k) (Lc (pack_Text.ok k) (Lc (ops_long.ok k) (Lc (ops_lists.ok k) (Lc (rows_Put.ok k) L0))))))
theorem sk : ∀ k, ∀ s ∈ [sg0 (s0 k), sg1 (s1 k)], SegB prog f16 0 s
 | 0 => (Lc (sn (Lc (fun _ _ => rfl) L0)) (Lc (sn (Lc (fun _ _ => rfl) L0)) L0))
 | k + 1 => (Lc (sg_ok (hE k) (sk k) (Lc s0_ev L0)) (Lc (sg_ok (hE k) (sk k) (Lc s1_ev L0)) L0))
theorem ok (k : Nat) : CtOK prog 16 (ct (f k)) := fn_ok func16 rfl (by decide) (hE k) (sk k) (Lc ev L0)
end ops_Put
namespace rows_reader_fail
abbrev R : Type := ByteArray × Int
def e (r : R) : Res := ⟨.tup [], [some (.box [(.d .str r.1), (.d (.int .i64) r.2)])]⟩
abbrev T (δ : Type) : Type := Int → ByteArray → Int → Option δ
abbrev A {δ : Type} (g : T δ) : Arm δ := ⟨[.k (.ptr 0 0), .d (.int .i64)], [.box [.g T_ops_reader]], fun x y => g x.2.1 y.1.1.1 y.1.1.2.1⟩
abbrev G : Type := T R
def ct (g : G) : Ct := mkCt 1 [] [A g] e
section
variable {β : Type} 
noncomputable abbrev env : FEnv := mkEnv prog f131 [] 1 [] []
def c (ret : R → Option β) (a0 : Int) (a1 : ByteArray) (a2 : Int) : Option β := (bif (a2 == (0 : Int)) then (ret (a1, a0)) else (ret (a1, a2)))
theorem ev : EvA (env) [] [0, 1] e (A (c some)) := fun x y => Eq.trans (b := (A (c fun r => some (e r))).G x y) (by kernel_rfl) (by simp only [A, c, bo, sum_bind, oa, os, on, ofs])
end
def f (k : Nat) (a0 : Int) (a1 : ByteArray) (a2 : Int) : Option R := c  some a0 a1 a2
noncomputable abbrev E (k : Nat) : FEnv := env  
theorem hE (k : Nat) : EnvOK (E k).toEnv := ctsOK L0
theorem ok (k : Nat) : CtOK prog 131 (ct (f k)) := fn_ok func131 rfl (by decide) (hE k) L0 (Lc ev L0)
end rows_reader_fail
namespace rows_reader_take
abbrev R : Type := ByteArray × ByteArray × Int
def e (r : R) : Res := ⟨.v (.one (.d .str r.1)), [some (.box [(.d .str r.2.1), (.d (.int .i64) r.2.2)])]⟩
abbrev T (δ : Type) : Type := Int → ByteArray → Int → Option δ
abbrev A {δ : Type} (g : T δ) : Arm δ := ⟨[.k (.ptr 0 0), .d (.int .i64)], [.box [.g T_ops_reader]], fun x y => g x.2.1 y.1.1.1 y.1.1.2.1⟩
abbrev G : Type := T R
def ct (g : G) : Ct := mkCt 1 [] [A g] e
abbrev S0 (δ : Type) : Type := Int → Bool → ByteArray → Int → Option δ
abbrev A_0 {δ : Type} (s : S0 δ) : Arm δ := ⟨[.k (.ptr 0 0), .d (.int .i64), .d .bool], [.box [.g T_ops_reader]], fun x y => s x.2.1 x.2.2.1 y.1.1.1 y.1.1.2.1⟩
abbrev S1 (δ : Type) : Type := Int → ByteArray → Int → Option δ
abbrev A_1 {δ : Type} (s : S1 δ) : Arm δ := ⟨[.k (.ptr 0 0), .d (.int .i64)], [.box [.g T_ops_reader]], fun x y => s x.2.1 y.1.1.1 y.1.1.2.1⟩
def sg0 (s : S0 R) : Seg := mkSg [1, 0, 1] [] [0, 1, 19] [A_0 s] e
def sg1 (s : S1 R) : Seg := mkSg [1, 1] [] [0, 1] [A_1 s] e
section
variable {β : Type} (g131 : rows_reader_fail.G) (s0 : S0 R) (s1 : S1 R)
noncomputable abbrev env : FEnv := mkEnv prog f130 [(131, rows_reader_fail.ct g131)] 1 [] [sg0 s0, sg1 s1]
def c (ret : R → Option β) (a0 : Int) (a1 : ByteArray) (a2 : Int) : Option β := (bif (a2 != (0 : Int)) then ((s0 a0 true a1 a2).bind ret) else ((s0 a0 (decide ((a1.size : Int) < a0)) a1 a2).bind ret))
def s0c (ret : R → Option β) (x0 : Int) (x1 : Bool) (x2 : ByteArray) (x3 : Int) : Option β := (bif x1 then ((g131 (3 : Int) x2 x3).bind fun r0 => (ret ((ByteArray.mk (List.toArray [])), r0.1, r0.2))) else ((s1 x0 x2 x3).bind ret))
def s1c (ret : R → Option β) (x0 : Int) (x1 : ByteArray) (x2 : Int) : Option β := (bif ((true && (decide ((0 : Int) ≤ x0))) && (decide (x0 ≤ (x1.size : Int)))) then (bif (((decide ((0 : Int) ≤ x0)) && (decide (x0 ≤ (x1.size : Int)))) && (decide ((x1.size : Int) ≤ (x1.size : Int)))) then (ret ((ByteArray.extract x1 (0 : Nat) (Int.toNat x0)), (ByteArray.extract x1 (Int.toNat x0) (Int.toNat (x1.size : Int))), x2)) else none) else none)
variable {g131} {s0} {s1}
theorem ev : EvA (env g131 s0 s1) [] [0, 1] e (A (c s0 some)) := fun x y => Eq.trans (b := (A (c s0 fun r => some (e r))).G x y) (by kernel_rfl) (by simp only [A, c, bo, sum_bind, oa, os, on, ofs])
theorem s0_ev : EvA (env g131 s0 s1) [1, 0, 1] [0, 1, 19] e (A_0 (s0c g131 s1 some)) := fun x y => Eq.trans (b := (A_0 (s0c g131 s1 fun r => some (e r))).G x y) (by kernel_rfl) (by simp only [A_0, s0c, bo, sum_bind, oa, os, on, ofs])
theorem s1_ev : EvA (env g131 s0 s1) [1, 1] [0, 1] e (A_1 (s1c some)) := fun x y => Eq.trans (b := (A_1 (s1c fun r => some (e r))).G x y) (by kernel_rfl) (by simp only [A_1, s1c, bo, sum_bind, oa, os, on, ofs])
end
mutual
def s0 : Nat → S0 R
 | 0, _, _, _, _ => none
 | k + 1, x0, x1, x2, x3 => s0c (rows_reader_fail.f k) (s1 k) some x0 x1 x2 x3
def s1 : Nat → S1 R
 | 0, _, _, _ => none
 | k + 1, x0, x1, x2 => s1c  some x0 x1 x2
end
def f (k : Nat) (a0 : Int) (a1 : ByteArray) (a2 : Int) : Option R := c (s0 k) some a0 a1 a2
noncomputable abbrev E (k : Nat) : FEnv := env (rows_reader_fail.f k) (s0 k) (s1 k)
theorem hE (k : Nat) : EnvOK (E k).toEnv := ctsOK (Lc (rows_reader_fail.ok k) L0)
theorem sk : ∀ k, ∀ s ∈ [sg0 (s0 k), sg1 (s1 k)], SegB prog f130 1 s
 | 0 => (Lc (sn (Lc (fun _ _ => rfl) L0)) (Lc (sn (Lc (fun _ _ => rfl) L0)) L0))
 | k + 1 => (Lc (sg_ok (hE k) (sk k) (Lc s0_ev L0)) (Lc (sg_ok (hE k) (sk k) (Lc s1_ev L0)) L0))
theorem ok (k : Nat) : CtOK prog 130 (ct (f k)) := fn_ok func130 rfl (by decide) (hE k) (sk k) (Lc ev L0)
end rows_reader_take
namespace pack_ReadInt
abbrev R : Type := Int × ByteArray × Int
def e (r : R) : Res := ⟨.tup [(.one (.d (.int .i64) r.1)), (.one (.d .str r.2.1)), (.one (.d (.int .i64) r.2.2))], []⟩
abbrev T (δ : Type) : Type := ByteArray → Option δ
abbrev A {δ : Type} (g : T δ) : Arm δ := ⟨[.d .str], [], fun x y => g x.1⟩
abbrev G : Type := T R
def ct (g : G) : Ct := mkCt 0 [] [A g] e
section
variable {β : Type} (g66 : pack_ReadUint.G)
noncomputable abbrev env : FEnv := mkEnv prog f132 [(66, pack_ReadUint.ct g66)] 0 [] []
def c (ret : R → Option β) (a0 : ByteArray) : Option β := ((g66 a0).bind fun r0 => (bif (r0.2.2 != (0 : Int)) then (ret ((0 : Int), (ByteArray.mk (List.toArray [])), r0.2.2)) else (ret ((IntKind.wrap .i64 ((BitVec.toNat ((BitVec.ofInt (64 : Nat) (IntKind.wrap .i64 (Int.fdiv r0.1 (2 : Int)))) ^^^ (BitVec.ofInt (64 : Nat) (IntKind.wrap .i64 ((0 : Int) - (IntKind.wrap .i64 (IntKind.wrap .u64 ((BitVec.toNat ((BitVec.ofInt (64 : Nat) r0.1) &&& (BitVec.ofInt (64 : Nat) (1 : Int)))) : Int)))))))) : Int)), r0.2.1, (0 : Int)))))
variable {g66}
theorem ev : EvA (env g66) [] [0] e (A (c g66 some)) := fun x y => Eq.trans (b := (A (c g66 fun r => some (e r))).G x y) (by kernel_rfl) (by simp only [A, c, bo, sum_bind, oa, os, on, ofs])
end
def f (k : Nat) (a0 : ByteArray) : Option R := c (pack_ReadUint.f k) some a0
noncomputable abbrev E (k : Nat) : FEnv := env (pack_ReadUint.f k) 
theorem hE (k : Nat) : EnvOK (E k).toEnv := ctsOK (Lc (pack_ReadUint.ok k) L0)
theorem ok (k : Nat) : CtOK prog 132 (ct (f k)) := fn_ok func132 rfl (by decide) (hE k) L0 (Lc ev L0)
end pack_ReadInt
namespace rows_reader_value
abbrev R : Type := Int × Int × Int × ByteArray × ByteArray × Int
def e (r : R) : Res := ⟨.v (.agg [(.d (.int .i64) r.1), (.d (.int .i64) r.2.1), (.d (.int .u64) r.2.2.1), (.d .str r.2.2.2.1)]), [some (.box [(.d .str r.2.2.2.2.1), (.d (.int .i64) r.2.2.2.2.2)])]⟩
abbrev T (δ : Type) : Type := ByteArray → Int → Option δ
abbrev A {δ : Type} (g : T δ) : Arm δ := ⟨[.k (.ptr 0 0)], [.box [.g T_ops_reader]], fun x y => g y.1.1.1 y.1.1.2.1⟩
abbrev G : Type := T R
def ct (g : G) : Ct := mkCt 1 [] [A g] e
abbrev S0 (δ : Type) : Type := ByteArray → Int → Int → Int → Int → ByteArray → Int → Int → Int → ByteArray → Option δ
abbrev A_0 {δ : Type} (s : S0 δ) : Arm δ := ⟨[.k (.ptr 0 0), .k (.ptr 1 0), .k (.ptr 2 0)], [.box [.g T_ops_reader], .box [.g T_api_Value], .box [.g T_api_Value]], fun x y => s y.1.1.1 y.1.1.2.1 y.2.1.1.1 y.2.1.1.2.1 y.2.1.1.2.2.1 y.2.1.1.2.2.2.1 y.2.2.1.1.1 y.2.2.1.1.2.1 y.2.2.1.1.2.2.1 y.2.2.1.1.2.2.2.1⟩
abbrev S1 (δ : Type) : Type := ByteArray → Int → Int → ByteArray → Int → Int → Int → Int → ByteArray → Int → Int → Int → ByteArray → Option δ
abbrev A_1 {δ : Type} (s : S1 δ) : Arm δ := ⟨[.k (.ptr 0 0), .k (.ptr 1 0), .k (.ptr 2 0), .d .str, .d (.int .i64), .d (.int .i64)], [.box [.g T_ops_reader], .box [.g T_api_Value], .box [.g T_api_Value]], fun x y => s x.2.2.2.1 x.2.2.2.2.1 x.2.2.2.2.2.1 y.1.1.1 y.1.1.2.1 y.2.1.1.1 y.2.1.1.2.1 y.2.1.1.2.2.1 y.2.1.1.2.2.2.1 y.2.2.1.1.1 y.2.2.1.1.2.1 y.2.2.1.1.2.2.1 y.2.2.1.1.2.2.2.1⟩
abbrev S2 (δ : Type) : Type := Bool → ByteArray → Int → Int → Int → Int → ByteArray → Int → Int → Int → ByteArray → Option δ
abbrev A_2 {δ : Type} (s : S2 δ) : Arm δ := ⟨[.k (.ptr 0 0), .k (.ptr 1 0), .k (.ptr 2 0), .d .bool], [.box [.g T_ops_reader], .box [.g T_api_Value], .box [.g T_api_Value]], fun x y => s x.2.2.2.1 y.1.1.1 y.1.1.2.1 y.2.1.1.1 y.2.1.1.2.1 y.2.1.1.2.2.1 y.2.1.1.2.2.2.1 y.2.2.1.1.1 y.2.2.1.1.2.1 y.2.2.1.1.2.2.1 y.2.2.1.1.2.2.2.1⟩
def sg0 (s : S0 R) : Seg := mkSg [1, 1, 1] [] [0, 2, 3] [A_0 s] e
def sg1 (s : S1 R) : Seg := mkSg [4, 1, 1, 2, 1, 3, 1, 3, 1, 3, 1, 4, 1, 0, 1, 1, 1] [] [0, 2, 3, 9, 68, 69] [A_1 s] e
def sg2 (s : S2 R) : Seg := mkSg [1, 3, 1, 3, 1, 3, 1, 3, 1, 4, 1, 0, 1, 1, 1] [] [0, 2, 3, 82] [A_2 s] e
section
variable {β : Type} (g67 : pack_ReadText.G) (g74 : values_Check.G) (g130 : rows_reader_take.G) (g131 : rows_reader_fail.G) (g132 : pack_ReadInt.G) (s0 : S0 R) (s1 : S1 R) (s2 : S2 R)
noncomputable abbrev env : FEnv := mkEnv prog f107 [(67, pack_ReadText.ct g67), (74, values_Check.ct g74), (130, rows_reader_take.ct g130), (131, rows_reader_fail.ct g131), (132, pack_ReadInt.ct g132)] 1 [] [sg0 s0, sg1 s1, sg2 s2]
def c (ret : R → Option β) (a0 : ByteArray) (a1 : Int) : Option β := ((g130 (1 : Int) a0 a1).bind fun r0 => (bif (!(r0.1.toList == (ByteArray.toList (ByteArray.mk (List.toArray []))))) then (bif (true && (decide ((0 : Int) < (r0.1.size : Int)))) then ((s0 r0.2.1 r0.2.2 (0 : Int) (0 : Int) (0 : Int) (ByteArray.mk (List.toArray [])) (IntKind.wrap .i64 (bt r0.1 (0 : Int))) (0 : Int) (0 : Int) (ByteArray.mk (List.toArray []))).bind ret) else none) else ((s0 r0.2.1 r0.2.2 (0 : Int) (0 : Int) (0 : Int) (ByteArray.mk (List.toArray [])) (0 : Int) (0 : Int) (0 : Int) (ByteArray.mk (List.toArray []))).bind ret)))
def s0c (ret : R → Option β) (x0 : ByteArray) (x1 : Int) (x2 : Int) (x3 : Int) (x4 : Int) (x5 : ByteArray) (x6 : Int) (x7 : Int) (x8 : Int) (x9 : ByteArray) : Option β := (bif (x6 == (0 : Int)) then ((g74 x6 x7 x8 x9).bind fun r0 => ((g131 r0 x0 x1).bind fun r1 => (ret (x6, x7, x8, x9, r1.1, r1.2)))) else (bif (x6 == (1 : Int)) then ((g130 (1 : Int) x0 x1).bind fun r2 => (bif (!(r2.1.toList == (ByteArray.toList (ByteArray.mk (List.toArray []))))) then (bif (true && (decide ((0 : Int) < (r2.1.size : Int)))) then (bif (decide ((IntKind.wrap .i64 (bt r2.1 (0 : Int))) > (1 : Int))) then ((g131 (6 : Int) r2.2.1 r2.2.2).bind fun r3 => ((g74 x6 (IntKind.wrap .i64 (bt r2.1 (0 : Int))) x8 x9).bind fun r4 => ((g131 r4 r3.1 r3.2).bind fun r5 => (ret (x6, (IntKind.wrap .i64 (bt r2.1 (0 : Int))), x8, x9, r5.1, r5.2))))) else ((g74 x6 (IntKind.wrap .i64 (bt r2.1 (0 : Int))) x8 x9).bind fun r6 => ((g131 r6 r2.2.1 r2.2.2).bind fun r7 => (ret (x6, (IntKind.wrap .i64 (bt r2.1 (0 : Int))), x8, x9, r7.1, r7.2))))) else none) else (bif (decide (x7 > (1 : Int))) then ((g131 (6 : Int) r2.2.1 r2.2.2).bind fun r8 => ((g74 x6 x7 x8 x9).bind fun r9 => ((g131 r9 r8.1 r8.2).bind fun r10 => (ret (x6, x7, x8, x9, r10.1, r10.2))))) else ((g74 x6 x7 x8 x9).bind fun r11 => ((g131 r11 r2.2.1 r2.2.2).bind fun r12 => (ret (x6, x7, x8, x9, r12.1, r12.2))))))) else (bif (x6 == (2 : Int)) then ((g132 x0).bind fun r13 => ((g131 r13.2.2 r13.2.1 x1).bind fun r14 => ((g74 x6 r13.1 x8 x9).bind fun r15 => ((g131 r15 r14.1 r14.2).bind fun r16 => (ret (x6, r13.1, x8, x9, r16.1, r16.2)))))) else (bif (x6 == (3 : Int)) then ((g130 (8 : Int) x0 x1).bind fun r17 => ((s1 r17.1 (r17.1.size : Int) (0 : Int) r17.2.1 r17.2.2 x2 x3 x4 x5 x6 x7 x8 x9).bind ret)) else (bif (x6 == (4 : Int)) then ((s2 (x6 == (4 : Int)) x0 x1 x2 x3 x4 x5 x6 x7 x8 x9).bind ret) else ((s2 (x6 == (5 : Int)) x0 x1 x2 x3 x4 x5 x6 x7 x8 x9).bind ret))))))
def s1c (ret : R → Option β) (x0 : ByteArray) (x1 : Int) (x2 : Int) (x3 : ByteArray) (x4 : Int) (x5 : Int) (x6 : Int) (x7 : Int) (x8 : ByteArray) (x9 : Int) (x10 : Int) (x11 : Int) (x12 : ByteArray) : Option β := (bif (decide (x2 < x1)) then (bif ((decide ((0 : Int) ≤ x2)) && (decide (x2 < (x0.size : Int)))) then ((s1 x0 x1 (IntKind.wrap .i64 (x2 + (1 : Int))) x3 x4 x5 x6 x7 x8 x9 x10 (IntKind.wrap .u64 ((BitVec.toNat ((BitVec.ofInt (64 : Nat) (IntKind.wrap .u64 (x11 * (256 : Int)))) ||| (BitVec.ofInt (64 : Nat) (IntKind.wrap .u64 (bt x0 x2))))) : Int)) x12).bind ret) else none) else ((g74 x9 x10 x11 x12).bind fun r0 => ((g131 r0 x3 x4).bind fun r1 => (ret (x9, x10, x11, x12, r1.1, r1.2)))))
def s2c (ret : R → Option β) (x0 : Bool) (x1 : ByteArray) (x2 : Int) (x3 : Int) (x4 : Int) (x5 : Int) (x6 : ByteArray) (x7 : Int) (x8 : Int) (x9 : Int) (x10 : ByteArray) : Option β := (bif x0 then ((g67 x1).bind fun r0 => ((g131 r0.2.2 r0.2.1 x2).bind fun r1 => ((g74 x7 x8 x9 r0.1).bind fun r2 => ((g131 r2 r1.1 r1.2).bind fun r3 => (ret (x7, x8, x9, r0.1, r3.1, r3.2)))))) else ((g131 (5 : Int) x1 x2).bind fun r4 => ((g74 x7 x8 x9 x10).bind fun r5 => ((g131 r5 r4.1 r4.2).bind fun r6 => (ret (x7, x8, x9, x10, r6.1, r6.2))))))
variable {g67} {g74} {g130} {g131} {g132} {s0} {s1} {s2}
theorem ev : EvA (env g67 g74 g130 g131 g132 s0 s1 s2) [] [0] e (A (c g130 s0 some)) := fun x y => Eq.trans (b := (A (c g130 s0 fun r => some (e r))).G x y) (by kernel_rfl) (by simp only [A, c, bo, sum_bind, oa, os, on, ofs])
theorem s0_ev : EvA (env g67 g74 g130 g131 g132 s0 s1 s2) [1, 1, 1] [0, 2, 3] e (A_0 (s0c g74 g130 g131 g132 s1 s2 some)) := fun x y => Eq.trans (b := (A_0 (s0c g74 g130 g131 g132 s1 s2 fun r => some (e r))).G x y) (by kernel_rfl) (by simp only [A_0, s0c, bo, sum_bind, oa, os, on, ofs])
theorem s1_ev : EvA (env g67 g74 g130 g131 g132 s0 s1 s2) [4, 1, 1, 2, 1, 3, 1, 3, 1, 3, 1, 4, 1, 0, 1, 1, 1] [0, 2, 3, 9, 68, 69] e (A_1 (s1c g74 g131 s1 some)) := fun x y => Eq.trans (b := (A_1 (s1c g74 g131 s1 fun r => some (e r))).G x y) (by kernel_rfl) (by simp only [A_1, s1c, bo, sum_bind, oa, os, on, ofs])
theorem s2_ev : EvA (env g67 g74 g130 g131 g132 s0 s1 s2) [1, 3, 1, 3, 1, 3, 1, 3, 1, 4, 1, 0, 1, 1, 1] [0, 2, 3, 82] e (A_2 (s2c g67 g74 g131 some)) := fun x y => Eq.trans (b := (A_2 (s2c g67 g74 g131 fun r => some (e r))).G x y) (by kernel_rfl) (by simp only [A_2, s2c, bo, sum_bind, oa, os, on, ofs])
end
mutual
def s0 : Nat → S0 R
 | 0, _, _, _, _, _, _, _, _, _, _ => none
 | k + 1, x0, x1, x2, x3, x4, x5, x6, x7, x8, x9 => s0c (values_Check.f k) (rows_reader_take.f k) (rows_reader_fail.f k) (pack_ReadInt.f k) (s1 k) (s2 k) some x0 x1 x2 x3 x4 x5 x6 x7 x8 x9
def s1 : Nat → S1 R
 | 0, _, _, _, _, _, _, _, _, _, _, _, _, _ => none
 | k + 1, x0, x1, x2, x3, x4, x5, x6, x7, x8, x9, x10, x11, x12 => s1c (values_Check.f k) (rows_reader_fail.f k) (s1 k) some x0 x1 x2 x3 x4 x5 x6 x7 x8 x9 x10 x11 x12
def s2 : Nat → S2 R
 | 0, _, _, _, _, _, _, _, _, _, _, _ => none
 | k + 1, x0, x1, x2, x3, x4, x5, x6, x7, x8, x9, x10 => s2c (pack_ReadText.f k) (values_Check.f k) (rows_reader_fail.f k) some x0 x1 x2 x3 x4 x5 x6 x7 x8 x9 x10
end
def f (k : Nat) (a0 : ByteArray) (a1 : Int) : Option R := c (rows_reader_take.f k) (s0 k) some a0 a1
noncomputable abbrev E (k : Nat) : FEnv := env (pack_ReadText.f k) (values_Check.f k) (rows_reader_take.f k) (rows_reader_fail.f k) (pack_ReadInt.f k) (s0 k) (s1 k) (s2 k)
theorem hE (k : Nat) : EnvOK (E k).toEnv := ctsOK (Lc (pack_ReadText.ok k) (Lc (values_Check.ok k) (Lc (rows_reader_take.ok k) (Lc (rows_reader_fail.ok k) (Lc (pack_ReadInt.ok k) L0)))))
theorem sk : ∀ k, ∀ s ∈ [sg0 (s0 k), sg1 (s1 k), sg2 (s2 k)], SegB prog f107 1 s
 | 0 => (Lc (sn (Lc (fun _ _ => rfl) L0)) (Lc (sn (Lc (fun _ _ => rfl) L0)) (Lc (sn (Lc (fun _ _ => rfl) L0)) L0)))
 | k + 1 => (Lc (sg_ok (hE k) (sk k) (Lc s0_ev L0)) (Lc (sg_ok (hE k) (sk k) (Lc s1_ev L0)) (Lc (sg_ok (hE k) (sk k) (Lc s2_ev L0)) L0)))
theorem ok (k : Nat) : CtOK prog 107 (ct (f k)) := fn_ok func107 rfl (by decide) (hE k) (sk k) (Lc ev L0)
end rows_reader_value
namespace rows_Read
abbrev R : Type := (List D_api_Value) × Int
def e (r : R) : Res := ⟨.tup [(.one (.d (.sl T_api_Value) r.1)), (.one (.d (.int .i64) r.2))], []⟩
abbrev T (δ : Type) : Type := ByteArray → Option δ
abbrev A {δ : Type} (g : T δ) : Arm δ := ⟨[.d .str], [], fun x y => g x.1⟩
abbrev G : Type := T R
def ct (g : G) : Ct := mkCt 0 [] [A g] e
abbrev S0 (δ : Type) : Type := Int → Int → ByteArray → Int → (List D_api_Value) → Option δ
abbrev A_0 {δ : Type} (s : S0 δ) : Arm δ := ⟨[.k (.ptr 0 0), .k (.own 1), .d (.int .i64), .d (.int .i64)], [.box [.g T_ops_reader], .own T_api_Value false], fun x y => s x.2.2.1 x.2.2.2.1 y.1.1.1 y.1.1.2.1 y.2.1⟩
def sg0 (s : S0 R) : Seg := mkSg [4, 1, 0, 1, 1, 1, 1, 1] [.own 8 T_api_Value] [7, 8, 26, 27] [A_0 s] e
section
variable {β : Type} (g66 : pack_ReadUint.G) (g107 : rows_reader_value.G) (s0 : S0 R)
noncomputable abbrev env : FEnv := mkEnv prog f78 [(66, pack_ReadUint.ct g66), (107, rows_reader_value.ct g107)] 0 [] [sg0 s0]
def c (ret : R → Option β) (a0 : ByteArray) : Option β := ((g66 a0).bind fun r0 => (bif (r0.2.2 != (0 : Int)) then (ret ([], r0.2.2)) else (bif (decide (r0.1 > (8 : Int))) then (ret ([], (2 : Int))) else ((s0 (IntKind.wrap .i64 r0.1) (0 : Int) r0.2.1 (0 : Int) []).bind ret))))
def s0c (ret : R → Option β) (x0 : Int) (x1 : Int) (x2 : ByteArray) (x3 : Int) (x4 : List D_api_Value) : Option β := (bif (decide (x1 < x0)) then ((g107 x2 x3).bind fun r0 => (bif (decide (((x4.length + (1 : Nat)) * (40 : Nat)) ≤ (35184372088832 : Nat))) then (bif (r0.2.2.2.2.2 != (0 : Int)) then (ret ([], r0.2.2.2.2.2)) else ((s0 x0 (IntKind.wrap .i64 (x1 + (1 : Int))) r0.2.2.2.2.1 r0.2.2.2.2.2 (x4 ++ [(r0.1, (r0.2.1, (r0.2.2.1, (r0.2.2.2.1, ()))))])).bind ret)) else none)) else (bif (!(x2.toList == (ByteArray.toList (ByteArray.mk (List.toArray []))))) then (ret ([], (4 : Int))) else (ret (x4, (0 : Int)))))
variable {g66} {g107} {s0}
theorem ev : EvA (env g66 g107 s0) [] [0] e (A (c g66 s0 some)) := fun x y => Eq.trans (b := (A (c g66 s0 fun r => some (e r))).G x y) (by kernel_rfl) (by simp only [A, c, bo, sum_bind, oa, os, on, ofs])
theorem s0_ev : EvA (env g66 g107 s0) [4, 1, 0, 1, 1, 1, 1, 1] [7, 8, 26, 27] e (A_0 (s0c g107 s0 some)) := fun x y => Eq.trans (b := (A_0 (s0c g107 s0 fun r => some (e r))).G x y) (by kernel_rfl) (by simp only [A_0, s0c, bo, sum_bind, oa, os, on, ofs])
end
def s0 : Nat → S0 R
 | 0, _, _, _, _, _ => none
 | k + 1, x0, x1, x2, x3, x4 => s0c (rows_reader_value.f k) (s0 k) some x0 x1 x2 x3 x4
def f (k : Nat) (a0 : ByteArray) : Option R := c (pack_ReadUint.f k) (s0 k) some a0
noncomputable abbrev E (k : Nat) : FEnv := env (pack_ReadUint.f k) (rows_reader_value.f k) (s0 k)
theorem hE (k : Nat) : EnvOK (E k).toEnv := ctsOK (Lc (pack_ReadUint.ok k) (Lc (rows_reader_value.ok k) L0))
theorem sk : ∀ k, ∀ s ∈ [sg0 (s0 k)], SegB prog f78 0 s
 | 0 => (Lc (sn (Lc (fun _ _ => rfl) L0)) L0)
 | k + 1 => (Lc (sg_ok (hE k) (sk k) (Lc s0_ev L0)) L0)
theorem ok (k : Nat) : CtOK prog 78 (ct (f k)) := fn_ok func78 rfl (by decide) (hE k) (sk k) (Lc ev L0)
end rows_Read
namespace ops_reader_row
abbrev R : Type := (List D_api_Value) × ByteArray × Int
def e (r : R) : Res := ⟨.v (.one (.d (.sl T_api_Value) r.1)), [some (.box [(.d .str r.2.1), (.d (.int .i64) r.2.2)])]⟩
abbrev T (δ : Type) : Type := ByteArray → Int → Option δ
abbrev A {δ : Type} (g : T δ) : Arm δ := ⟨[.k (.ptr 0 0)], [.box [.g T_ops_reader]], fun x y => g y.1.1.1 y.1.1.2.1⟩
abbrev G : Type := T R
def ct (g : G) : Ct := mkCt 1 [] [A g] e
section
variable {β : Type} (g40 : ops_reader_text.G) (g78 : rows_Read.G)
noncomputable abbrev env : FEnv := mkEnv prog f54 [(40, ops_reader_text.ct g40), (78, rows_Read.ct g78)] 1 [] []
def c (ret : R → Option β) (a0 : ByteArray) (a1 : Int) : Option β := ((g40 a0 a1).bind fun r0 => (bif (r0.2.2 != (0 : Int)) then (ret ([], r0.2.1, r0.2.2)) else ((g78 r0.1).bind fun r1 => (ret (r1.1, r0.2.1, r1.2)))))
variable {g40} {g78}
theorem ev : EvA (env g40 g78) [] [0] e (A (c g40 g78 some)) := fun x y => Eq.trans (b := (A (c g40 g78 fun r => some (e r))).G x y) (by kernel_rfl) (by simp only [A, c, bo, sum_bind, oa, os, on, ofs])
end
def f (k : Nat) (a0 : ByteArray) (a1 : Int) : Option R := c (ops_reader_text.f k) (rows_Read.f k) some a0 a1
noncomputable abbrev E (k : Nat) : FEnv := env (ops_reader_text.f k) (rows_Read.f k) 
theorem hE (k : Nat) : EnvOK (E k).toEnv := ctsOK (Lc (ops_reader_text.ok k) (Lc (rows_Read.ok k) L0))
theorem ok (k : Nat) : CtOK prog 54 (ct (f k)) := fn_ok func54 rfl (by decide) (hE k) L0 (Lc ev L0)
end ops_reader_row
namespace ops_Read
abbrev R : Type := D_api_Op × ByteArray × Int
def e (r : R) : Res := ⟨.tup [(.agg (flat T_api_Op r.1)), (.one (.d .str r.2.1)), (.one (.d (.int .i64) r.2.2))], []⟩
abbrev T (δ : Type) : Type := ByteArray → Option δ
abbrev A {δ : Type} (g : T δ) : Arm δ := ⟨[.d .str], [], fun x y => g x.1⟩
abbrev G : Type := T R
def ct (g : G) : Ct := mkCt 0 [] [A g] e
abbrev S0 (δ : Type) : Type := ByteArray → Bool → Int → ByteArray → Int → Int → ByteArray → ByteArray → ByteArray → ByteArray → ByteArray → Int → ByteArray → Int → Bool → Int → Int → Int → ByteArray → ByteArray → Int → ByteArray → Int → Int → ByteArray → (List D_api_Value) → (List D_api_Value) → (List D_api_Value) → Int → Int → ByteArray → ByteArray → ByteArray → ByteArray → ByteArray → Int → ByteArray → Int → Bool → Int → Int → Int → ByteArray → ByteArray → Int → Option δ
abbrev A_0 {δ : Type} (s : S0 δ) : Arm δ := ⟨[.d .str, .k (.ptr 0 0), .k (.ptr 1 0), .k (.ptr 2 0), .d .bool], [.box [.g (.int .i64), .g .str, .c .nilS, .c .nilS, .c .nilS, .g (.int .i64), .g (.int .i64), .g .str, .g .str, .g .str, .g .str, .g T_ops_reader, .c .nilS, .g T_api_Col, .g T_ops_reader, .c .nilS], .box [.g T_ops_reader], .box [.g (.int .i64), .g .str, .g (.sl T_api_Value), .g (.sl T_api_Value), .g (.sl T_api_Value), .g (.int .i64), .g (.int .i64), .g .str, .g .str, .g .str, .g .str, .g T_ops_reader, .c .nilS, .g T_api_Col, .g T_ops_reader, .c .nilS]], fun x y => s x.1 x.2.2.2.2.1 y.1.1 y.1.2.1 y.1.2.2.2.2.2.1 y.1.2.2.2.2.2.2.1 y.1.2.2.2.2.2.2.2.1 y.1.2.2.2.2.2.2.2.2.1 y.1.2.2.2.2.2.2.2.2.2.1 y.1.2.2.2.2.2.2.2.2.2.2.1 y.1.2.2.2.2.2.2.2.2.2.2.2.1.1 y.1.2.2.2.2.2.2.2.2.2.2.2.1.2.1 y.1.2.2.2.2.2.2.2.2.2.2.2.2.2.1.1 y.1.2.2.2.2.2.2.2.2.2.2.2.2.2.1.2.1 y.1.2.2.2.2.2.2.2.2.2.2.2.2.2.1.2.2.1 y.1.2.2.2.2.2.2.2.2.2.2.2.2.2.1.2.2.2.1.1 y.1.2.2.2.2.2.2.2.2.2.2.2.2.2.1.2.2.2.1.2.1 y.1.2.2.2.2.2.2.2.2.2.2.2.2.2.1.2.2.2.1.2.2.1 y.1.2.2.2.2.2.2.2.2.2.2.2.2.2.1.2.2.2.1.2.2.2.1 y.1.2.2.2.2.2.2.2.2.2.2.2.2.2.2.1.1 y.1.2.2.2.2.2.2.2.2.2.2.2.2.2.2.1.2.1 y.2.1.1.1 y.2.1.1.2.1 y.2.2.1.1 y.2.2.1.2.1 y.2.2.1.2.2.1 y.2.2.1.2.2.2.1 y.2.2.1.2.2.2.2.1 y.2.2.1.2.2.2.2.2.1 y.2.2.1.2.2.2.2.2.2.1 y.2.2.1.2.2.2.2.2.2.2.1 y.2.2.1.2.2.2.2.2.2.2.2.1 y.2.2.1.2.2.2.2.2.2.2.2.2.1 y.2.2.1.2.2.2.2.2.2.2.2.2.2.1 y.2.2.1.2.2.2.2.2.2.2.2.2.2.2.1.1 y.2.2.1.2.2.2.2.2.2.2.2.2.2.2.1.2.1 y.2.2.1.2.2.2.2.2.2.2.2.2.2.2.2.2.1.1 y.2.2.1.2.2.2.2.2.2.2.2.2.2.2.2.2.1.2.1 y.2.2.1.2.2.2.2.2.2.2.2.2.2.2.2.2.1.2.2.1 y.2.2.1.2.2.2.2.2.2.2.2.2.2.2.2.2.1.2.2.2.1.1 y.2.2.1.2.2.2.2.2.2.2.2.2.2.2.2.2.1.2.2.2.1.2.1 y.2.2.1.2.2.2.2.2.2.2.2.2.2.2.2.2.1.2.2.2.1.2.2.1 y.2.2.1.2.2.2.2.2.2.2.2.2.2.2.2.2.1.2.2.2.1.2.2.2.1 y.2.2.1.2.2.2.2.2.2.2.2.2.2.2.2.2.2.1.1 y.2.2.1.2.2.2.2.2.2.2.2.2.2.2.2.2.2.1.2.1⟩
abbrev S1 (δ : Type) : Type := ByteArray → Int → ByteArray → Int → Int → ByteArray → ByteArray → ByteArray → ByteArray → ByteArray → Int → ByteArray → Int → Bool → Int → Int → Int → ByteArray → ByteArray → Int → ByteArray → Int → D_api_Op → Option δ
abbrev A_1 {δ : Type} (s : S1 δ) : Arm δ := ⟨[.d .str, .k (.ptr 0 0), .k (.ptr 1 0), .k (.ptr 2 0)], [.box [.g (.int .i64), .g .str, .c .nilS, .c .nilS, .c .nilS, .g (.int .i64), .g (.int .i64), .g .str, .g .str, .g .str, .g .str, .g T_ops_reader, .c .nilS, .g T_api_Col, .g T_ops_reader, .c .nilS], .box [.g T_ops_reader], .box [.g T_api_Op]], fun x y => s x.1 y.1.1 y.1.2.1 y.1.2.2.2.2.2.1 y.1.2.2.2.2.2.2.1 y.1.2.2.2.2.2.2.2.1 y.1.2.2.2.2.2.2.2.2.1 y.1.2.2.2.2.2.2.2.2.2.1 y.1.2.2.2.2.2.2.2.2.2.2.1 y.1.2.2.2.2.2.2.2.2.2.2.2.1.1 y.1.2.2.2.2.2.2.2.2.2.2.2.1.2.1 y.1.2.2.2.2.2.2.2.2.2.2.2.2.2.1.1 y.1.2.2.2.2.2.2.2.2.2.2.2.2.2.1.2.1 y.1.2.2.2.2.2.2.2.2.2.2.2.2.2.1.2.2.1 y.1.2.2.2.2.2.2.2.2.2.2.2.2.2.1.2.2.2.1.1 y.1.2.2.2.2.2.2.2.2.2.2.2.2.2.1.2.2.2.1.2.1 y.1.2.2.2.2.2.2.2.2.2.2.2.2.2.1.2.2.2.1.2.2.1 y.1.2.2.2.2.2.2.2.2.2.2.2.2.2.1.2.2.2.1.2.2.2.1 y.1.2.2.2.2.2.2.2.2.2.2.2.2.2.2.1.1 y.1.2.2.2.2.2.2.2.2.2.2.2.2.2.2.1.2.1 y.2.1.1.1 y.2.1.1.2.1 y.2.2.1.1⟩
abbrev S2 (δ : Type) : Type := Bool → Int → ByteArray → Int → Int → ByteArray → ByteArray → ByteArray → ByteArray → ByteArray → Int → ByteArray → Int → Bool → Int → Int → Int → ByteArray → ByteArray → Int → ByteArray → Int → D_api_Op → Option δ
abbrev A_2 {δ : Type} (s : S2 δ) : Arm δ := ⟨[.k (.ptr 0 0), .k (.ptr 1 0), .k (.ptr 2 0), .d .bool], [.box [.g (.int .i64), .g .str, .c .nilS, .c .nilS, .c .nilS, .g (.int .i64), .g (.int .i64), .g .str, .g .str, .g .str, .g .str, .g T_ops_reader, .c .nilS, .g T_api_Col, .g T_ops_reader, .c .nilS], .box [.g T_ops_reader], .box [.g T_api_Op]], fun x y => s x.2.2.2.1 y.1.1 y.1.2.1 y.1.2.2.2.2.2.1 y.1.2.2.2.2.2.2.1 y.1.2.2.2.2.2.2.2.1 y.1.2.2.2.2.2.2.2.2.1 y.1.2.2.2.2.2.2.2.2.2.1 y.1.2.2.2.2.2.2.2.2.2.2.1 y.1.2.2.2.2.2.2.2.2.2.2.2.1.1 y.1.2.2.2.2.2.2.2.2.2.2.2.1.2.1 y.1.2.2.2.2.2.2.2.2.2.2.2.2.2.1.1 y.1.2.2.2.2.2.2.2.2.2.2.2.2.2.1.2.1 y.1.2.2.2.2.2.2.2.2.2.2.2.2.2.1.2.2.1 y.1.2.2.2.2.2.2.2.2.2.2.2.2.2.1.2.2.2.1.1 y.1.2.2.2.2.2.2.2.2.2.2.2.2.2.1.2.2.2.1.2.1 y.1.2.2.2.2.2.2.2.2.2.2.2.2.2.1.2.2.2.1.2.2.1 y.1.2.2.2.2.2.2.2.2.2.2.2.2.2.1.2.2.2.1.2.2.2.1 y.1.2.2.2.2.2.2.2.2.2.2.2.2.2.2.1.1 y.1.2.2.2.2.2.2.2.2.2.2.2.2.2.2.1.2.1 y.2.1.1.1 y.2.1.1.2.1 y.2.2.1.1⟩
abbrev S3 (δ : Type) : Type := Int → ByteArray → Int → Int → ByteArray → ByteArray → ByteArray → ByteArray → ByteArray → Int → ByteArray → Int → Bool → Int → Int → Int → ByteArray → ByteArray → Int → ByteArray → Int → D_api_Op → Option δ
abbrev A_3 {δ : Type} (s : S3 δ) : Arm δ := ⟨[.k (.ptr 0 0), .k (.ptr 1 0), .k (.ptr 2 0)], [.box [.g (.int .i64), .g .str, .c .nilS, .c .nilS, .c .nilS, .g (.int .i64), .g (.int .i64), .g .str, .g .str, .g .str, .g .str, .g T_ops_reader, .c .nilS, .g T_api_Col, .g T_ops_reader, .c .nilS], .box [.g T_ops_reader], .box [.g T_api_Op]], fun x y => s y.1.1 y.1.2.1 y.1.2.2.2.2.2.1 y.1.2.2.2.2.2.2.1 y.1.2.2.2.2.2.2.2.1 y.1.2.2.2.2.2.2.2.2.1 y.1.2.2.2.2.2.2.2.2.2.1 y.1.2.2.2.2.2.2.2.2.2.2.1 y.1.2.2.2.2.2.2.2.2.2.2.2.1.1 y.1.2.2.2.2.2.2.2.2.2.2.2.1.2.1 y.1.2.2.2.2.2.2.2.2.2.2.2.2.2.1.1 y.1.2.2.2.2.2.2.2.2.2.2.2.2.2.1.2.1 y.1.2.2.2.2.2.2.2.2.2.2.2.2.2.1.2.2.1 y.1.2.2.2.2.2.2.2.2.2.2.2.2.2.1.2.2.2.1.1 y.1.2.2.2.2.2.2.2.2.2.2.2.2.2.1.2.2.2.1.2.1 y.1.2.2.2.2.2.2.2.2.2.2.2.2.2.1.2.2.2.1.2.2.1 y.1.2.2.2.2.2.2.2.2.2.2.2.2.2.1.2.2.2.1.2.2.2.1 y.1.2.2.2.2.2.2.2.2.2.2.2.2.2.2.1.1 y.1.2.2.2.2.2.2.2.2.2.2.2.2.2.2.1.2.1 y.2.1.1.1 y.2.1.1.2.1 y.2.2.1.1⟩
def sg0 (s : S0 R) : Seg := mkSg [1, 0, 1, 1, 1, 1, 1, 1, 1, 1] [] [0, 2, 5, 6, 46] [A_0 s] e
def sg1 (s : S1 R) : Seg := mkSg [1, 1, 1, 1, 1, 1, 1, 1, 1] [.cellDat 6 13 (.sl .str), .cellDat 6 23 (.sl T_api_Col)] [0, 2, 5, 6] [A_1 s] e
def sg2 (s : S2 R) : Seg := mkSg [1, 1, 2, 1, 0, 1, 1, 1, 1, 1, 1, 1, 1, 1] [] [2, 5, 6, 91] [A_2 s] e
def sg3 (s : S3 R) : Seg := mkSg [1, 1, 1, 1, 1, 1, 1, 1, 1, 1] [] [2, 5, 6] [A_3 s] e
section
variable {β : Type} (g12 : ops_ReadChange.G) (g16 : ops_Put.G) (g39 : ops_reader_number.G) (g40 : ops_reader_text.G) (g42 : ops_reader_fail.G) (g51_0 : ops_lists.G0) (g51_1 : ops_lists.G1) (g54 : ops_reader_row.G) (s0 : S0 R) (s1 : S1 R) (s2 : S2 R) (s3 : S3 R)
noncomputable abbrev env : FEnv := mkEnv prog f18 [(12, ops_ReadChange.ct g12), (16, ops_Put.ct g16), (39, ops_reader_number.ct g39), (40, ops_reader_text.ct g40), (42, ops_reader_fail.ct g42), (51, ops_lists.ct g51_0 g51_1), (54, ops_reader_row.ct g54)] 0 [] [sg0 s0, sg1 s1, sg2 s2, sg3 s3]
def c (ret : R → Option β) (a0 : ByteArray) : Option β := ((g39 (1 : Int) (9 : Int) a0 (0 : Int)).bind fun r0 => ((g40 r0.2.1 r0.2.2).bind fun r1 => ((g51_1 r0.1 r1.1 (0 : Int) (0 : Int) (ByteArray.mk (List.toArray [])) (ByteArray.mk (List.toArray [])) (ByteArray.mk (List.toArray [])) (ByteArray.mk (List.toArray [])) (ByteArray.mk (List.toArray [])) (0 : Int) (ByteArray.mk (List.toArray [])) (0 : Int) false (0 : Int) (0 : Int) (0 : Int) (ByteArray.mk (List.toArray [])) (ByteArray.mk (List.toArray [])) (0 : Int)).bind fun r2 => ((g54 r1.2.1 r1.2.2).bind fun r3 => ((g54 r3.2.1 r3.2.2).bind fun r4 => ((g54 r4.2.1 r4.2.2).bind fun r5 => ((g39 (0 : Int) (64 : Int) r5.2.1 r5.2.2).bind fun r6 => (bif (r6.2.2 == (0 : Int)) then ((s0 a0 (r2.1 == (6 : Int)) (0 : Int) (ByteArray.mk (List.toArray [])) (0 : Int) (0 : Int) (ByteArray.mk (List.toArray [])) (ByteArray.mk (List.toArray [])) (ByteArray.mk (List.toArray [])) (ByteArray.mk (List.toArray [])) (ByteArray.mk (List.toArray [])) (0 : Int) (ByteArray.mk (List.toArray [])) (0 : Int) false (0 : Int) (0 : Int) (0 : Int) (ByteArray.mk (List.toArray [])) (ByteArray.mk (List.toArray [])) (0 : Int) r6.2.1 r6.2.2 r2.1 r2.2.1 r3.1 r4.1 r5.1 r6.1 r2.2.2.2.1 r2.2.2.2.2.1 r2.2.2.2.2.2.1 r2.2.2.2.2.2.2.1 r2.2.2.2.2.2.2.2.1 r2.2.2.2.2.2.2.2.2.1 r2.2.2.2.2.2.2.2.2.2.1 r2.2.2.2.2.2.2.2.2.2.2.1 r2.2.2.2.2.2.2.2.2.2.2.2.1 r2.2.2.2.2.2.2.2.2.2.2.2.2.1 r2.2.2.2.2.2.2.2.2.2.2.2.2.2.1 r2.2.2.2.2.2.2.2.2.2.2.2.2.2.2.1 r2.2.2.2.2.2.2.2.2.2.2.2.2.2.2.2.1 r2.2.2.2.2.2.2.2.2.2.2.2.2.2.2.2.2.1 r2.2.2.2.2.2.2.2.2.2.2.2.2.2.2.2.2.2.1 r2.2.2.2.2.2.2.2.2.2.2.2.2.2.2.2.2.2.2).bind ret) else ((s0 a0 false (0 : Int) (ByteArray.mk (List.toArray [])) (0 : Int) (0 : Int) (ByteArray.mk (List.toArray [])) (ByteArray.mk (List.toArray [])) (ByteArray.mk (List.toArray [])) (ByteArray.mk (List.toArray [])) (ByteArray.mk (List.toArray [])) (0 : Int) (ByteArray.mk (List.toArray [])) (0 : Int) false (0 : Int) (0 : Int) (0 : Int) (ByteArray.mk (List.toArray [])) (ByteArray.mk (List.toArray [])) (0 : Int) r6.2.1 r6.2.2 r2.1 r2.2.1 r3.1 r4.1 r5.1 r6.1 r2.2.2.2.1 r2.2.2.2.2.1 r2.2.2.2.2.2.1 r2.2.2.2.2.2.2.1 r2.2.2.2.2.2.2.2.1 r2.2.2.2.2.2.2.2.2.1 r2.2.2.2.2.2.2.2.2.2.1 r2.2.2.2.2.2.2.2.2.2.2.1 r2.2.2.2.2.2.2.2.2.2.2.2.1 r2.2.2.2.2.2.2.2.2.2.2.2.2.1 r2.2.2.2.2.2.2.2.2.2.2.2.2.2.1 r2.2.2.2.2.2.2.2.2.2.2.2.2.2.2.1 r2.2.2.2.2.2.2.2.2.2.2.2.2.2.2.2.1 r2.2.2.2.2.2.2.2.2.2.2.2.2.2.2.2.2.1 r2.2.2.2.2.2.2.2.2.2.2.2.2.2.2.2.2.2.1 r2.2.2.2.2.2.2.2.2.2.2.2.2.2.2.2.2.2.2).bind ret)))))))))
def s0c (ret : R → Option β) (x0 : ByteArray) (x1 : Bool) (x2 : Int) (x3 : ByteArray) (x4 : Int) (x5 : Int) (x6 : ByteArray) (x7 : ByteArray) (x8 : ByteArray) (x9 : ByteArray) (x10 : ByteArray) (x11 : Int) (x12 : ByteArray) (x13 : Int) (x14 : Bool) (x15 : Int) (x16 : Int) (x17 : Int) (x18 : ByteArray) (x19 : ByteArray) (x20 : Int) (x21 : ByteArray) (x22 : Int) (x23 : Int) (x24 : ByteArray) (x25 : List D_api_Value) (x26 : List D_api_Value) (x27 : List D_api_Value) (x28 : Int) (x29 : Int) (x30 : ByteArray) (x31 : ByteArray) (x32 : ByteArray) (x33 : ByteArray) (x34 : ByteArray) (x35 : Int) (x36 : ByteArray) (x37 : Int) (x38 : Bool) (x39 : Int) (x40 : Int) (x41 : Int) (x42 : ByteArray) (x43 : ByteArray) (x44 : Int) : Option β := (bif x1 then ((g12 x21).bind fun r0 => ((s1 x0 x2 x3 x4 x5 x6 x7 x8 x9 x10 x11 x12 x13 x14 x15 x16 x17 x18 x19 x20 r0.2.1 r0.2.2 (x23, (x24, (x25, (x26, (x27, (x28, (r0.1, ())))))))).bind ret)) else ((s1 x0 x2 x3 x4 x5 x6 x7 x8 x9 x10 x11 x12 x13 x14 x15 x16 x17 x18 x19 x20 x21 x22 (x23, (x24, (x25, (x26, (x27, (x28, ((x29, (x30, (x31, (x32, (x33, (x34, (x35, ([], ((x36, (x37, (x38, ((x39, (x40, (x41, (x42, ())))), ())))), ((x43, (x44, ([], ()))), ())))))))))), ())))))))).bind ret))
def s1c (ret : R → Option β) (x0 : ByteArray) (x1 : Int) (x2 : ByteArray) (x3 : Int) (x4 : Int) (x5 : ByteArray) (x6 : ByteArray) (x7 : ByteArray) (x8 : ByteArray) (x9 : ByteArray) (x10 : Int) (x11 : ByteArray) (x12 : Int) (x13 : Bool) (x14 : Int) (x15 : Int) (x16 : Int) (x17 : ByteArray) (x18 : ByteArray) (x19 : Int) (x20 : ByteArray) (x21 : Int) (x22 : D_api_Op) : Option β := (bif (x21 == (0 : Int)) then ((g16 x22).bind fun r0 => (bif (r0.2 != (0 : Int)) then ((s2 true x1 x2 x3 x4 x5 x6 x7 x8 x9 x10 x11 x12 x13 x14 x15 x16 x17 x18 x19 x20 x21 x22).bind ret) else (bif ((true && (decide ((0 : Int) ≤ (IntKind.wrap .i64 ((x0.size : Int) - (x20.size : Int)))))) && (decide ((IntKind.wrap .i64 ((x0.size : Int) - (x20.size : Int))) ≤ (x0.size : Int)))) then ((s2 (!(r0.1.toList == (ByteArray.toList (ByteArray.extract x0 (0 : Nat) (Int.toNat (IntKind.wrap .i64 ((x0.size : Int) - (x20.size : Int)))))))) x1 x2 x3 x4 x5 x6 x7 x8 x9 x10 x11 x12 x13 x14 x15 x16 x17 x18 x19 x20 x21 x22).bind ret) else none))) else ((s3 x1 x2 x3 x4 x5 x6 x7 x8 x9 x10 x11 x12 x13 x14 x15 x16 x17 x18 x19 x20 x21 x22).bind ret))
def s2c (ret : R → Option β) (x0 : Bool) (x1 : Int) (x2 : ByteArray) (x3 : Int) (x4 : Int) (x5 : ByteArray) (x6 : ByteArray) (x7 : ByteArray) (x8 : ByteArray) (x9 : ByteArray) (x10 : Int) (x11 : ByteArray) (x12 : Int) (x13 : Bool) (x14 : Int) (x15 : Int) (x16 : Int) (x17 : ByteArray) (x18 : ByteArray) (x19 : Int) (x20 : ByteArray) (x21 : Int) (x22 : D_api_Op) : Option β := (bif x0 then ((g42 (4 : Int) x20 x21).bind fun r0 => ((s3 x1 x2 x3 x4 x5 x6 x7 x8 x9 x10 x11 x12 x13 x14 x15 x16 x17 x18 x19 r0.1 r0.2 x22).bind ret)) else ((s3 x1 x2 x3 x4 x5 x6 x7 x8 x9 x10 x11 x12 x13 x14 x15 x16 x17 x18 x19 x20 x21 x22).bind ret))
def s3c (ret : R → Option β) (x0 : Int) (x1 : ByteArray) (x2 : Int) (x3 : Int) (x4 : ByteArray) (x5 : ByteArray) (x6 : ByteArray) (x7 : ByteArray) (x8 : ByteArray) (x9 : Int) (x10 : ByteArray) (x11 : Int) (x12 : Bool) (x13 : Int) (x14 : Int) (x15 : Int) (x16 : ByteArray) (x17 : ByteArray) (x18 : Int) (x19 : ByteArray) (x20 : Int) (x21 : D_api_Op) : Option β := (bif (x20 != (0 : Int)) then (ret (Z_api_Op, (ByteArray.mk (List.toArray [])), x20)) else (ret (x21, x19, (0 : Int))))
variable {g12} {g16} {g39} {g40} {g42} {g51_0} {g51_1} {g54} {s0} {s1} {s2} {s3}
theorem ev : EvA (env g12 g16 g39 g40 g42 g51_0 g51_1 g54 s0 s1 s2 s3) [] [0] e (A (c g39 g40 g51_1 g54 s0 some)) := fun x y => Eq.trans (b := (A (c g39 g40 g51_1 g54 s0 fun r => some (e r))).G x y) (by kernel_rfl) (by simp only [A, c, bo, sum_bind, oa, os, on, ofs])
theorem s0_ev : EvA (env g12 g16 g39 g40 g42 g51_0 g51_1 g54 s0 s1 s2 s3) [1, 0, 1, 1, 1, 1, 1, 1, 1, 1] [0, 2, 5, 6, 46] e (A_0 (s0c g12 s1 some)) := fun x y => Eq.trans (b := (A_0 (s0c g12 s1 fun r => some (e r))).G x y) (by kernel_rfl) (by simp only [A_0, s0c, bo, sum_bind, oa, os, on, ofs])
theorem s1_ev : EvA (env g12 g16 g39 g40 g42 g51_0 g51_1 g54 s0 s1 s2 s3) [1, 1, 1, 1, 1, 1, 1, 1, 1] [0, 2, 5, 6] e (A_1 (s1c g16 s2 s3 some)) := fun x y => Eq.trans (b := (A_1 (s1c g16 s2 s3 fun r => some (e r))).G x y) (by kernel_rfl) (by simp only [A_1, s1c, bo, sum_bind, oa, os, on, ofs])
theorem s2_ev : EvA (env g12 g16 g39 g40 g42 g51_0 g51_1 g54 s0 s1 s2 s3) [1, 1, 2, 1, 0, 1, 1, 1, 1, 1, 1, 1, 1, 1] [2, 5, 6, 91] e (A_2 (s2c g42 s3 some)) := fun x y => Eq.trans (b := (A_2 (s2c g42 s3 fun r => some (e r))).G x y) (by kernel_rfl) (by simp only [A_2, s2c, bo, sum_bind, oa, os, on, ofs])
theorem s3_ev : EvA (env g12 g16 g39 g40 g42 g51_0 g51_1 g54 s0 s1 s2 s3) [1, 1, 1, 1, 1, 1, 1, 1, 1, 1] [2, 5, 6] e (A_3 (s3c some)) := fun x y => Eq.trans (b := (A_3 (s3c fun r => some (e r))).G x y) (by kernel_rfl) (by simp only [A_3, s3c, bo, sum_bind, oa, os, on, ofs])
end
mutual
def s0 : Nat → S0 R
 | 0, _, _, _, _, _, _, _, _, _, _, _, _, _, _, _, _, _, _, _, _, _, _, _, _, _, _, _, _, _, _, _, _, _, _, _, _, _, _, _, _, _, _, _, _, _ => none
 | k + 1, x0, x1, x2, x3, x4, x5, x6, x7, x8, x9, x10, x11, x12, x13, x14, x15, x16, x17, x18, x19, x20, x21, x22, x23, x24, x25, x26, x27, x28, x29, x30, x31, x32, x33, x34, x35, x36, x37, x38, x39, x40, x41, x42, x43, x44 => s0c (ops_ReadChange.f k) (s1 k) some x0 x1 x2 x3 x4 x5 x6 x7 x8 x9 x10 x11 x12 x13 x14 x15 x16 x17 x18 x19 x20 x21 x22 x23 x24 x25 x26 x27 x28 x29 x30 x31 x32 x33 x34 x35 x36 x37 x38 x39 x40 x41 x42 x43 x44
def s1 : Nat → S1 R
 | 0, _, _, _, _, _, _, _, _, _, _, _, _, _, _, _, _, _, _, _, _, _, _, _ => none
 | k + 1, x0, x1, x2, x3, x4, x5, x6, x7, x8, x9, x10, x11, x12, x13, x14, x15, x16, x17, x18, x19, x20, x21, x22 => s1c (ops_Put.f k) (s2 k) (s3 k) some x0 x1 x2 x3 x4 x5 x6 x7 x8 x9 x10 x11 x12 x13 x14 x15 x16 x17 x18 x19 x20 x21 x22
def s2 : Nat → S2 R
 | 0, _, _, _, _, _, _, _, _, _, _, _, _, _, _, _, _, _, _, _, _, _, _, _ => none
 | k + 1, x0, x1, x2, x3, x4, x5, x6, x7, x8, x9, x10, x11, x12, x13, x14, x15, x16, x17, x18, x19, x20, x21, x22 => s2c (ops_reader_fail.f k) (s3 k) some x0 x1 x2 x3 x4 x5 x6 x7 x8 x9 x10 x11 x12 x13 x14 x15 x16 x17 x18 x19 x20 x21 x22
def s3 : Nat → S3 R
 | 0, _, _, _, _, _, _, _, _, _, _, _, _, _, _, _, _, _, _, _, _, _, _ => none
 | k + 1, x0, x1, x2, x3, x4, x5, x6, x7, x8, x9, x10, x11, x12, x13, x14, x15, x16, x17, x18, x19, x20, x21 => s3c  some x0 x1 x2 x3 x4 x5 x6 x7 x8 x9 x10 x11 x12 x13 x14 x15 x16 x17 x18 x19 x20 x21
end
def f (k : Nat) (a0 : ByteArray) : Option R := c (ops_reader_number.f k) (ops_reader_text.f k) (ops_lists.f1 k) (ops_reader_row.f k) (s0 k) some a0
noncomputable abbrev E (k : Nat) : FEnv := env (ops_ReadChange.f k) (ops_Put.f k) (ops_reader_number.f k) (ops_reader_text.f k) (ops_reader_fail.f k) (ops_lists.f0 k) (ops_lists.f1 k) (ops_reader_row.f k) (s0 k) (s1 k) (s2 k) (s3 k)
theorem hE (k : Nat) : EnvOK (E k).toEnv := ctsOK (Lc (ops_ReadChange.ok k) (Lc (ops_Put.ok k) (Lc (ops_reader_number.ok k) (Lc (ops_reader_text.ok k) (Lc (ops_reader_fail.ok k) (Lc (ops_lists.ok k) (Lc (ops_reader_row.ok k) L0)))))))
theorem sk : ∀ k, ∀ s ∈ [sg0 (s0 k), sg1 (s1 k), sg2 (s2 k), sg3 (s3 k)], SegB prog f18 0 s
 | 0 => (Lc (sn (Lc (fun _ _ => rfl) L0)) (Lc (sn (Lc (fun _ _ => rfl) L0)) (Lc (sn (Lc (fun _ _ => rfl) L0)) (Lc (sn (Lc (fun _ _ => rfl) L0)) L0))))
 | k + 1 => (Lc (sg_ok (hE k) (sk k) (Lc s0_ev L0)) (Lc (sg_ok (hE k) (sk k) (Lc s1_ev L0)) (Lc (sg_ok (hE k) (sk k) (Lc s2_ev L0)) (Lc (sg_ok (hE k) (sk k) (Lc s3_ev L0)) L0))))
theorem ok (k : Nat) : CtOK prog 18 (ct (f k)) := fn_ok func18 rfl (by decide) (hE k) (sk k) (Lc ev L0)
end ops_Read
namespace values_Same
def e (r : Bool) : Res := ⟨.v (.one (.d .bool r)), []⟩
abbrev T (δ : Type) : Type := Int → Int → Int → ByteArray → Int → Int → Int → ByteArray → Option δ
abbrev A {δ : Type} (g : T δ) : Arm δ := ⟨[.s T_api_Value, .s T_api_Value], [], fun x y => g x.1.1.1 x.1.1.2.1 x.1.1.2.2.1 x.1.1.2.2.2.1 x.2.1.1.1 x.2.1.1.2.1 x.2.1.1.2.2.1 x.2.1.1.2.2.2.1⟩
abbrev G : Type := T Bool
def ct (g : G) : Ct := mkCt 0 [] [A g] e
section
variable {β : Type} 
noncomputable abbrev env : FEnv := mkEnv prog f82 [] 0 [] []
def c (ret : Bool → Option β) (a0 : Int) (a1 : Int) (a2 : Int) (a3 : ByteArray) (a4 : Int) (a5 : Int) (a6 : Int) (a7 : ByteArray) : Option β := (ret (((a0 == a4) && ((a1 == a5) && ((a2 == a6) && ((a3.toList == a7.toList) && true))))))
theorem ev : EvA (env) [] [0, 1] e (A (c some)) := fun x y => Eq.trans (b := (A (c fun r => some (e r))).G x y) (by kernel_rfl) (by simp only [A, c, bo, sum_bind, oa, os, on, ofs])
end
def f (k : Nat) (a0 : Int) (a1 : Int) (a2 : Int) (a3 : ByteArray) (a4 : Int) (a5 : Int) (a6 : Int) (a7 : ByteArray) : Option Bool := c  some a0 a1 a2 a3 a4 a5 a6 a7
noncomputable abbrev E (k : Nat) : FEnv := env  
theorem hE (k : Nat) : EnvOK (E k).toEnv := ctsOK L0
theorem ok (k : Nat) : CtOK prog 82 (ct (f k)) := fn_ok func82 rfl (by decide) (hE k) L0 (Lc ev L0)
end values_Same
end Go.Proofs.YtaehpfmnejeddaaGreatDoor.Aev
