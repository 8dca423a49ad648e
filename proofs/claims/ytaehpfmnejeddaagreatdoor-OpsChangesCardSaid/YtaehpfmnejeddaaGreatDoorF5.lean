/- By a program of this session (AEV): functions of the program as plain functions, and that the machine does what they say. -/
import Derived.Test.YtaehpfmnejeddaaGreatDoorTys
import Derived.Test.YtaehpfmnejeddaaGreatDoorProg
import Derived.Laws.Externs
import Derived.Lib.Bytealg
import Derived.Test.YtaehpfmnejeddaaGreatDoorF0
import Derived.Test.YtaehpfmnejeddaaGreatDoorF1
import Derived.Test.YtaehpfmnejeddaaGreatDoorF3
import Derived.Test.YtaehpfmnejeddaaGreatDoorF4
namespace Go.Proofs.YtaehpfmnejeddaaGreatDoor.Aev
set_option linter.unusedVariables false
set_option linter.unusedSimpArgs false
set_option maxRecDepth 100000
set_option maxHeartbeats 4000000
open Go Go.Proofs.Tryz
namespace rows_put
def e (r : ByteArray) : Res := ⟨.v (.one (.d .str r)), []⟩
abbrev G : Type := Int → Int → Int → ByteArray → Option ByteArray
def ct (g : G) : Ct := mkCt 0 [] [⟨[.s T_api_Value], [], fun x y => g x.1.1.1 x.1.1.2.1 x.1.1.2.2.1 x.1.1.2.2.2.1⟩] e
abbrev S0 : Type := Int → Int → Int → Int → ByteArray → (List Int) → Option ByteArray
def sg0 (s : S0) : Seg := mkSg [4, 1, 2, 1, 3, 1, 3, 1, 4, 1, 0, 1, 1] [.own 3 (.int .u8)] [1, 3, 4] [⟨[.k (.ptr 0 0), .k (.own 1), .d (.int .i64)], [.box [.g T_api_Value], .own (.int .u8) false], fun x y => s x.2.2.1 y.1.1.1 y.1.1.2.1 y.1.1.2.2.1 y.1.1.2.2.2.1 y.2.1⟩] e
section
variable {β : Type} (g33 : pack_Text.G) (g103 : pack_Int.G) (s0 : S0)
noncomputable abbrev env : FEnv := mkEnv prog f75 [(33, pack_Text.ct g33), (103, pack_Int.ct g103)] 0 [] [sg0 s0]
def c (a0 : Int) (a1 : Int) (a2 : Int) (a3 : ByteArray) (ret : ByteArray → Option β) : Option β := (bif (a0 == (1 : Int)) then (ret ((ByteArray.mk (List.toArray (List.map (fun n => (UInt8.ofNat (Int.toNat n))) ([(IntKind.wrap IntKind.u8 a0)] ++ [(IntKind.wrap IntKind.u8 a1)])))))) else (bif (a0 == (2 : Int)) then ((g103 a1).bind fun r0 => (bif (decide ((((1 : Nat) + (List.length (List.map (fun b => ((UInt8.toNat b) : Int)) (Array.toList (ByteArray.data r0))))) * (1 : Nat)) ≤ (35184372088832 : Nat))) then (ret ((ByteArray.mk (List.toArray (List.map (fun n => (UInt8.ofNat (Int.toNat n))) ([(IntKind.wrap IntKind.u8 a0)] ++ (List.map (fun b => ((UInt8.toNat b) : Int)) (Array.toList (ByteArray.data r0))))))))) else none)) else (bif (a0 == (3 : Int)) then ((s0 (56 : Int) a0 a1 a2 a3 [(IntKind.wrap IntKind.u8 a0)]).bind ret) else (bif (a0 == (4 : Int)) then (bif (a0 == (4 : Int)) then ((g33 a3).bind fun r1 => (bif (decide ((((1 : Nat) + (List.length (List.map (fun b => ((UInt8.toNat b) : Int)) (Array.toList (ByteArray.data r1))))) * (1 : Nat)) ≤ (35184372088832 : Nat))) then (ret ((ByteArray.mk (List.toArray (List.map (fun n => (UInt8.ofNat (Int.toNat n))) ([(IntKind.wrap IntKind.u8 a0)] ++ (List.map (fun b => ((UInt8.toNat b) : Int)) (Array.toList (ByteArray.data r1))))))))) else none)) else (ret ((ByteArray.mk (List.toArray (List.map (fun n => (UInt8.ofNat (Int.toNat n))) [(IntKind.wrap IntKind.u8 a0)])))))) else (bif (a0 == (5 : Int)) then ((g33 a3).bind fun r2 => (bif (decide ((((1 : Nat) + (List.length (List.map (fun b => ((UInt8.toNat b) : Int)) (Array.toList (ByteArray.data r2))))) * (1 : Nat)) ≤ (35184372088832 : Nat))) then (ret ((ByteArray.mk (List.toArray (List.map (fun n => (UInt8.ofNat (Int.toNat n))) ([(IntKind.wrap IntKind.u8 a0)] ++ (List.map (fun b => ((UInt8.toNat b) : Int)) (Array.toList (ByteArray.data r2))))))))) else none)) else (ret ((ByteArray.mk (List.toArray (List.map (fun n => (UInt8.ofNat (Int.toNat n))) [(IntKind.wrap IntKind.u8 a0)]))))))))))
def s0c (x0 : Int) (x1 : Int) (x2 : Int) (x3 : Int) (x4 : ByteArray) (x5 : List Int) (ret : ByteArray → Option β) : Option β := (bif (decide (x0 ≥ (0 : Int))) then (bif (decide ((0 : Int) ≤ x0)) then (bif (decide ((((List.length x5) + (1 : Nat)) * (1 : Nat)) ≤ (35184372088832 : Nat))) then ((s0 (IntKind.wrap IntKind.i64 (x0 - (8 : Int))) x1 x2 x3 x4 (x5 ++ [(IntKind.wrap IntKind.u8 (Int.fdiv x3 ((2 : Int) ^ (Min.min (Int.toNat x0) (64 : Nat)))))])).bind ret) else none) else none) else (ret ((ByteArray.mk (List.toArray (List.map (fun n => (UInt8.ofNat (Int.toNat n))) x5))))))
variable {g33} {g103} {s0}
theorem ev : EvA (env g33 g103 s0) [] [0] e ⟨[.s T_api_Value], [], fun x y => c g33 g103 s0 x.1.1.1 x.1.1.2.1 x.1.1.2.2.1 x.1.1.2.2.2.1 some⟩ := fun x y => Eq.trans (b := c g33 g103 s0 x.1.1.1 x.1.1.2.1 x.1.1.2.2.1 x.1.1.2.2.2.1 fun r => some (e r)) (by kernel_rfl) (by simp only [c, bif_bind, sum_bind, oa, os, on, ofs])
theorem s0_ev : EvA (env g33 g103 s0) [4, 1, 2, 1, 3, 1, 3, 1, 4, 1, 0, 1, 1] [1, 3, 4] e ⟨[.k (.ptr 0 0), .k (.own 1), .d (.int .i64)], [.box [.g T_api_Value], .own (.int .u8) false], fun x y => s0c s0 x.2.2.1 y.1.1.1 y.1.1.2.1 y.1.1.2.2.1 y.1.1.2.2.2.1 y.2.1 some⟩ := fun x y => Eq.trans (b := s0c s0 x.2.2.1 y.1.1.1 y.1.1.2.1 y.1.1.2.2.1 y.1.1.2.2.2.1 y.2.1 fun r => some (e r)) (by kernel_rfl) (by simp only [s0c, bif_bind, sum_bind, oa, os, on, ofs])
end
def s0 : Nat → Int → Int → Int → Int → ByteArray → (List Int) → Option ByteArray
  | 0, _, _, _, _, _, _ => none
  | k + 1, x0, x1, x2, x3, x4, x5 => s0c (s0 k) x0 x1 x2 x3 x4 x5 some
def f (k : Nat) (a0 : Int) (a1 : Int) (a2 : Int) (a3 : ByteArray) : Option ByteArray := c (pack_Text.f k) (pack_Int.f k) (s0 k) a0 a1 a2 a3 some
noncomputable abbrev E (k : Nat) : FEnv := env (pack_Text.f k) (pack_Int.f k) (s0 k)
theorem hE (k : Nat) : EnvOK (E k).toEnv := ctsOK (L.cons (pack_Text.ok k) (L.cons (pack_Int.ok k) L.nil))
theorem segs_ok : ∀ k, ∀ s ∈ [sg0 (s0 k)], SegB prog f75 0 s
  | 0 => (L.cons (sg_none (L.cons (fun _ _ => rfl) L.nil)) L.nil)
  | k + 1 => (L.cons (sg_ok (hE k) (segs_ok k) (L.cons s0_ev L.nil)) L.nil)
theorem ok (k : Nat) : CtOK prog 75 (ct (f k)) := fn_ok func75 rfl (by decide) (hE k) (segs_ok k) (L.cons ev L.nil)
end rows_put
namespace rows_Put
def e (r : ByteArray × Int) : Res := ⟨.tup [(.one (.d .str r.1)), (.one (.d (.int .i64) r.2))], []⟩
abbrev G : Type := (List D_api_Value) → Option (ByteArray × Int)
def ct (g : G) : Ct := mkCt 0 [] [⟨[.d (.sl T_api_Value)], [], fun x y => g x.1⟩] e
abbrev S0 : Type := ByteArray → (List D_api_Value) → Int → Int → Option (ByteArray × Int)
def sg0 (s : S0) : Seg := mkSg [4, 1, 0, 1, 1, 1] [] [4, 15, 16, 17] [⟨[.d .str, .d (.sl T_api_Value), .d (.int .i64), .d (.int .i64)], [], fun x y => s x.1 x.2.1 x.2.2.1 x.2.2.2.1⟩] e
section
variable {β : Type} (g31 : pack_Uint.G) (g74 : values_Check.G) (g75 : rows_put.G) (s0 : S0)
noncomputable abbrev env : FEnv := mkEnv prog f52 [(31, pack_Uint.ct g31), (74, values_Check.ct g74), (75, rows_put.ct g75)] 0 [] [sg0 s0]
def c (a0 : List D_api_Value) (ret : (ByteArray × Int) → Option β) : Option β := (bif (decide (((List.length a0) : Int) > (8 : Int))) then (ret ((ByteArray.mk (List.toArray [])), (2 : Int))) else ((g31 (IntKind.wrap IntKind.u64 ((List.length a0) : Int))).bind fun r0 => ((s0 r0 a0 ((List.length a0) : Int) (0 : Int)).bind ret)))
def s0c (x0 : ByteArray) (x1 : List D_api_Value) (x2 : Int) (x3 : Int) (ret : (ByteArray × Int) → Option β) : Option β := (bif (decide (x3 < x2)) then (bif ((decide ((0 : Int) ≤ x3)) && (decide (x3 < ((List.length x1) : Int)))) then ((g74 (elem T_api_Value x1 x3).1 (elem T_api_Value x1 x3).2.1 (elem T_api_Value x1 x3).2.2.1 (elem T_api_Value x1 x3).2.2.2.1).bind fun r0 => (bif (r0 != (0 : Int)) then (ret ((ByteArray.mk (List.toArray [])), r0)) else ((g75 (elem T_api_Value x1 x3).1 (elem T_api_Value x1 x3).2.1 (elem T_api_Value x1 x3).2.2.1 (elem T_api_Value x1 x3).2.2.2.1).bind fun r1 => (bif ((decide ((ByteArray.size x0) ≤ (4611686018427387903 : Nat))) && (decide ((ByteArray.size r1) ≤ (4611686018427387903 : Nat)))) then ((s0 (x0 ++ r1) x1 x2 (IntKind.wrap IntKind.i64 (x3 + (1 : Int)))).bind ret) else none)))) else none) else (ret (x0, (0 : Int))))
variable {g31} {g74} {g75} {s0}
theorem ev : EvA (env g31 g74 g75 s0) [] [0] e ⟨[.d (.sl T_api_Value)], [], fun x y => c g31 s0 x.1 some⟩ := fun x y => Eq.trans (b := c g31 s0 x.1 fun r => some (e r)) (by kernel_rfl) (by simp only [c, bif_bind, sum_bind, oa, os, on, ofs])
theorem s0_ev : EvA (env g31 g74 g75 s0) [4, 1, 0, 1, 1, 1] [4, 15, 16, 17] e ⟨[.d .str, .d (.sl T_api_Value), .d (.int .i64), .d (.int .i64)], [], fun x y => s0c g74 g75 s0 x.1 x.2.1 x.2.2.1 x.2.2.2.1 some⟩ := fun x y => Eq.trans (b := s0c g74 g75 s0 x.1 x.2.1 x.2.2.1 x.2.2.2.1 fun r => some (e r)) (by kernel_rfl) (by simp only [s0c, bif_bind, sum_bind, oa, os, on, ofs])
end
def s0 : Nat → ByteArray → (List D_api_Value) → Int → Int → Option (ByteArray × Int)
  | 0, _, _, _, _ => none
  | k + 1, x0, x1, x2, x3 => s0c (values_Check.f k) (rows_put.f k) (s0 k) x0 x1 x2 x3 some
def f (k : Nat) (a0 : List D_api_Value) : Option (ByteArray × Int) := c (pack_Uint.f k) (s0 k) a0 some
noncomputable abbrev E (k : Nat) : FEnv := env (pack_Uint.f k) (values_Check.f k) (rows_put.f k) (s0 k)
theorem hE (k : Nat) : EnvOK (E k).toEnv := ctsOK (L.cons (pack_Uint.ok k) (L.cons (values_Check.ok k) (L.cons (rows_put.ok k) L.nil)))
theorem segs_ok : ∀ k, ∀ s ∈ [sg0 (s0 k)], SegB prog f52 0 s
  | 0 => (L.cons (sg_none (L.cons (fun _ _ => rfl) L.nil)) L.nil)
  | k + 1 => (L.cons (sg_ok (hE k) (segs_ok k) (L.cons s0_ev L.nil)) L.nil)
theorem ok (k : Nat) : CtOK prog 52 (ct (f k)) := fn_ok func52 rfl (by decide) (hE k) (segs_ok k) (L.cons ev L.nil)
end rows_Put
namespace ops_Put
def e (r : ByteArray × Int) : Res := ⟨.tup [(.one (.d .str r.1)), (.one (.d (.int .i64) r.2))], []⟩
abbrev G : Type := D_api_Op → Option (ByteArray × Int)
def ct (g : G) : Ct := mkCt 0 [] [⟨[.s T_api_Op], [], fun x y => g x.1.1⟩] e
abbrev S0 : Type := Bool → D_api_Op → Option (ByteArray × Int)
abbrev S1 : Type := D_api_Op → Option (ByteArray × Int)
def sg0 (s : S0) : Seg := mkSg [1, 4, 0, 1] [] [1, 11] [⟨[.k (.ptr 0 0), .d .bool], [.box [.g T_api_Op]], fun x y => s x.2.1 y.1.1⟩] e
def sg1 (s : S1) : Seg := mkSg [1, 1] [] [1] [⟨[.k (.ptr 0 0)], [.box [.g T_api_Op]], fun x y => s y.1.1⟩] e
section
variable {β : Type} (g10 : ops_PutChange.G) (g31 : pack_Uint.G) (g33 : pack_Text.G) (g50 : ops_long.G) (g51_0 : ops_lists.G0) (g51_1 : ops_lists.G1) (g52 : rows_Put.G) (s0 : S0) (s1 : S1)
noncomputable abbrev env : FEnv := mkEnv prog f16 [(10, ops_PutChange.ct g10), (31, pack_Uint.ct g31), (33, pack_Text.ct g33), (50, ops_long.ct g50), (51, ops_lists.ct g51_0 g51_1), (52, rows_Put.ct g52)] 0 [] [sg0 s0, sg1 s1]
def c (a0 : D_api_Op) (ret : (ByteArray × Int) → Option β) : Option β := (bif (decide (a0.1 < (1 : Int))) then ((s0 true a0).bind ret) else (bif (decide (a0.1 > (9 : Int))) then ((s0 true a0).bind ret) else (bif (decide (a0.2.2.2.2.2.1 < (0 : Int))) then ((s0 true a0).bind ret) else ((s0 (decide (a0.2.2.2.2.2.1 > (64 : Int))) a0).bind ret))))
def s0c (x0 : Bool) (x1 : D_api_Op) (ret : (ByteArray × Int) → Option β) : Option β := (bif x0 then (ret ((ByteArray.mk (List.toArray [])), (1 : Int))) else ((g50 x1.2.1).bind fun r0 => (bif r0 then (ret ((ByteArray.mk (List.toArray [])), (8 : Int))) else ((s1 x1).bind ret))))
def s1c (x0 : D_api_Op) (ret : (ByteArray × Int) → Option β) : Option β := ((g31 (IntKind.wrap IntKind.u64 x0.1)).bind fun r0 => ((g33 x0.2.1).bind fun r1 => (bif ((decide ((ByteArray.size r0) ≤ (4611686018427387903 : Nat))) && (decide ((ByteArray.size r1) ≤ (4611686018427387903 : Nat)))) then ((g51_0 x0).bind fun r2 => ((g52 r2.2.2.1).bind fun r3 => (bif (r3.2 != (0 : Int)) then (ret ((ByteArray.mk (List.toArray [])), r3.2)) else ((g33 r3.1).bind fun r4 => (bif ((decide ((ByteArray.size (r0 ++ r1)) ≤ (4611686018427387903 : Nat))) && (decide ((ByteArray.size r4) ≤ (4611686018427387903 : Nat)))) then ((g52 r2.2.2.2.1).bind fun r5 => (bif (r5.2 != (0 : Int)) then (ret ((ByteArray.mk (List.toArray [])), r5.2)) else ((g33 r5.1).bind fun r6 => (bif ((decide ((ByteArray.size ((r0 ++ r1) ++ r4)) ≤ (4611686018427387903 : Nat))) && (decide ((ByteArray.size r6) ≤ (4611686018427387903 : Nat)))) then ((g52 r2.2.2.2.2.1).bind fun r7 => (bif (r7.2 != (0 : Int)) then (ret ((ByteArray.mk (List.toArray [])), r7.2)) else ((g33 r7.1).bind fun r8 => (bif ((decide ((ByteArray.size (((r0 ++ r1) ++ r4) ++ r6)) ≤ (4611686018427387903 : Nat))) && (decide ((ByteArray.size r8) ≤ (4611686018427387903 : Nat)))) then ((g31 (IntKind.wrap IntKind.u64 r2.2.2.2.2.2.1)).bind fun r9 => (bif ((decide ((ByteArray.size ((((r0 ++ r1) ++ r4) ++ r6) ++ r8)) ≤ (4611686018427387903 : Nat))) && (decide ((ByteArray.size r9) ≤ (4611686018427387903 : Nat)))) then (bif (r2.1 != (6 : Int)) then (ret ((((((r0 ++ r1) ++ r4) ++ r6) ++ r8) ++ r9), (0 : Int))) else ((g10 r2.2.2.2.2.2.2.1).bind fun r10 => (bif (r10.2 != (0 : Int)) then (ret ((ByteArray.mk (List.toArray [])), r10.2)) else (bif ((decide ((ByteArray.size (((((r0 ++ r1) ++ r4) ++ r6) ++ r8) ++ r9)) ≤ (4611686018427387903 : Nat))) && (decide ((ByteArray.size r10.1) ≤ (4611686018427387903 : Nat)))) then (ret (((((((r0 ++ r1) ++ r4) ++ r6) ++ r8) ++ r9) ++ r10.1), (0 : Int))) else none)))) else none)) else none)))) else none)))) else none))))) else none)))
variable {g10} {g31} {g33} {g50} {g51_0} {g51_1} {g52} {s0} {s1}
theorem ev : EvA (env g10 g31 g33 g50 g51_0 g51_1 g52 s0 s1) [] [0] e ⟨[.s T_api_Op], [], fun x y => c s0 x.1.1 some⟩ := fun x y => Eq.trans (b := c s0 x.1.1 fun r => some (e r)) (by kernel_rfl) (by simp only [c, bif_bind, sum_bind, oa, os, on, ofs])
theorem s0_ev : EvA (env g10 g31 g33 g50 g51_0 g51_1 g52 s0 s1) [1, 4, 0, 1] [1, 11] e ⟨[.k (.ptr 0 0), .d .bool], [.box [.g T_api_Op]], fun x y => s0c g50 s1 x.2.1 y.1.1 some⟩ := fun x y => Eq.trans (b := s0c g50 s1 x.2.1 y.1.1 fun r => some (e r)) (by kernel_rfl) (by simp only [s0c, bif_bind, sum_bind, oa, os, on, ofs])
theorem s1_ev : EvA (env g10 g31 g33 g50 g51_0 g51_1 g52 s0 s1) [1, 1] [1] e ⟨[.k (.ptr 0 0)], [.box [.g T_api_Op]], fun x y => s1c g10 g31 g33 g51_0 g52 y.1.1 some⟩ := fun x y => Eq.trans (b := s1c g10 g31 g33 g51_0 g52 y.1.1 fun r => some (e r)) (by kernel_rfl) (by simp only [s1c, bif_bind, sum_bind, oa, os, on, ofs])
end
mutual
def s0 : Nat → Bool → D_api_Op → Option (ByteArray × Int)
  | 0, _, _ => none
  | k + 1, x0, x1 => s0c (ops_long.f k) (s1 k) x0 x1 some
def s1 : Nat → D_api_Op → Option (ByteArray × Int)
  | 0, _ => none
  | k + 1, x0 => s1c (ops_PutChange.f k) (pack_Uint.f k) (pack_Text.f k) (ops_lists.f0 k) (rows_Put.f k) x0 some
end
def f (k : Nat) (a0 : D_api_Op) : Option (ByteArray × Int) := c (s0 k) a0 some
noncomputable abbrev E (k : Nat) : FEnv := env (ops_PutChange.f k) (pack_Uint.f k) (pack_Text.f k) (ops_long.f k) (ops_lists.f0 k) (ops_lists.f1 k) (rows_Put.f k) (s0 k) (s1 k)
theorem hE (k : Nat) : EnvOK (E k).toEnv := ctsOK (L.cons (ops_PutChange.ok k) (L.cons (pack_Uint.ok k) (L.cons (pack_Text.ok k) (L.cons (ops_long.ok k) (L.cons (ops_lists.ok k) (L.cons (rows_Put.ok k) L.nil))))))
theorem segs_ok : ∀ k, ∀ s ∈ [sg0 (s0 k), sg1 (s1 k)], SegB prog f16 0 s
  | 0 => (L.cons (sg_none (L.cons (fun _ _ => rfl) L.nil)) (L.cons (sg_none (L.cons (fun _ _ => rfl) L.nil)) L.nil))
  | k + 1 => (L.cons (sg_ok (hE k) (segs_ok k) (L.cons s0_ev L.nil)) (L.cons (sg_ok (hE k) (segs_ok k) (L.cons s1_ev L.nil)) L.nil))
theorem ok (k : Nat) : CtOK prog 16 (ct (f k)) := fn_ok func16 rfl (by decide) (hE k) (segs_ok k) (L.cons ev L.nil)
end ops_Put
namespace rows_reader_fail
def e (r : ByteArray × Int) : Res := ⟨.tup [], [some (.box [(.d .str r.1), (.d (.int .i64) r.2)])]⟩
abbrev G : Type := Int → ByteArray → Int → Option (ByteArray × Int)
def ct (g : G) : Ct := mkCt 1 [] [⟨[.k (.ptr 0 0), .d (.int .i64)], [.box [.g T_ops_reader]], fun x y => g x.2.1 y.1.1.1 y.1.1.2.1⟩] e
section
variable {β : Type} 
noncomputable abbrev env : FEnv := mkEnv prog f131 [] 1 [] []
def c (a0 : Int) (a1 : ByteArray) (a2 : Int) (ret : (ByteArray × Int) → Option β) : Option β := (bif (a2 == (0 : Int)) then (ret (a1, a0)) else (ret (a1, a2)))
theorem ev : EvA (env) [] [0, 1] e ⟨[.k (.ptr 0 0), .d (.int .i64)], [.box [.g T_ops_reader]], fun x y => c x.2.1 y.1.1.1 y.1.1.2.1 some⟩ := fun x y => Eq.trans (b := c x.2.1 y.1.1.1 y.1.1.2.1 fun r => some (e r)) (by kernel_rfl) (by simp only [c, bif_bind, sum_bind, oa, os, on, ofs])
end
def f (k : Nat) (a0 : Int) (a1 : ByteArray) (a2 : Int) : Option (ByteArray × Int) := c  a0 a1 a2 some
noncomputable abbrev E (k : Nat) : FEnv := env  
theorem hE (k : Nat) : EnvOK (E k).toEnv := ctsOK L.nil
theorem ok (k : Nat) : CtOK prog 131 (ct (f k)) := fn_ok func131 rfl (by decide) (hE k) L.nil (L.cons ev L.nil)
end rows_reader_fail
namespace rows_reader_take
def e (r : ByteArray × ByteArray × Int) : Res := ⟨.v (.one (.d .str r.1)), [some (.box [(.d .str r.2.1), (.d (.int .i64) r.2.2)])]⟩
abbrev G : Type := Int → ByteArray → Int → Option (ByteArray × ByteArray × Int)
def ct (g : G) : Ct := mkCt 1 [] [⟨[.k (.ptr 0 0), .d (.int .i64)], [.box [.g T_ops_reader]], fun x y => g x.2.1 y.1.1.1 y.1.1.2.1⟩] e
abbrev S0 : Type := Int → Bool → ByteArray → Int → Option (ByteArray × ByteArray × Int)
abbrev S1 : Type := Int → ByteArray → Int → Option (ByteArray × ByteArray × Int)
def sg0 (s : S0) : Seg := mkSg [1, 0, 1] [] [0, 1, 19] [⟨[.k (.ptr 0 0), .d (.int .i64), .d .bool], [.box [.g T_ops_reader]], fun x y => s x.2.1 x.2.2.1 y.1.1.1 y.1.1.2.1⟩] e
def sg1 (s : S1) : Seg := mkSg [1, 1] [] [0, 1] [⟨[.k (.ptr 0 0), .d (.int .i64)], [.box [.g T_ops_reader]], fun x y => s x.2.1 y.1.1.1 y.1.1.2.1⟩] e
section
variable {β : Type} (g131 : rows_reader_fail.G) (s0 : S0) (s1 : S1)
noncomputable abbrev env : FEnv := mkEnv prog f130 [(131, rows_reader_fail.ct g131)] 1 [] [sg0 s0, sg1 s1]
def c (a0 : Int) (a1 : ByteArray) (a2 : Int) (ret : (ByteArray × ByteArray × Int) → Option β) : Option β := (bif (a2 != (0 : Int)) then ((s0 a0 true a1 a2).bind ret) else ((s0 a0 (decide (((ByteArray.size a1) : Int) < a0)) a1 a2).bind ret))
def s0c (x0 : Int) (x1 : Bool) (x2 : ByteArray) (x3 : Int) (ret : (ByteArray × ByteArray × Int) → Option β) : Option β := (bif x1 then ((g131 (3 : Int) x2 x3).bind fun r0 => (ret ((ByteArray.mk (List.toArray [])), r0.1, r0.2))) else ((s1 x0 x2 x3).bind ret))
def s1c (x0 : Int) (x1 : ByteArray) (x2 : Int) (ret : (ByteArray × ByteArray × Int) → Option β) : Option β := (bif ((true && (decide ((0 : Int) ≤ x0))) && (decide (x0 ≤ ((ByteArray.size x1) : Int)))) then (bif (((decide ((0 : Int) ≤ x0)) && (decide (x0 ≤ ((ByteArray.size x1) : Int)))) && (decide (((ByteArray.size x1) : Int) ≤ ((ByteArray.size x1) : Int)))) then (ret ((ByteArray.extract x1 (0 : Nat) (Int.toNat x0)), (ByteArray.extract x1 (Int.toNat x0) (Int.toNat ((ByteArray.size x1) : Int))), x2)) else none) else none)
variable {g131} {s0} {s1}
theorem ev : EvA (env g131 s0 s1) [] [0, 1] e ⟨[.k (.ptr 0 0), .d (.int .i64)], [.box [.g T_ops_reader]], fun x y => c s0 x.2.1 y.1.1.1 y.1.1.2.1 some⟩ := fun x y => Eq.trans (b := c s0 x.2.1 y.1.1.1 y.1.1.2.1 fun r => some (e r)) (by kernel_rfl) (by simp only [c, bif_bind, sum_bind, oa, os, on, ofs])
theorem s0_ev : EvA (env g131 s0 s1) [1, 0, 1] [0, 1, 19] e ⟨[.k (.ptr 0 0), .d (.int .i64), .d .bool], [.box [.g T_ops_reader]], fun x y => s0c g131 s1 x.2.1 x.2.2.1 y.1.1.1 y.1.1.2.1 some⟩ := fun x y => Eq.trans (b := s0c g131 s1 x.2.1 x.2.2.1 y.1.1.1 y.1.1.2.1 fun r => some (e r)) (by kernel_rfl) (by simp only [s0c, bif_bind, sum_bind, oa, os, on, ofs])
theorem s1_ev : EvA (env g131 s0 s1) [1, 1] [0, 1] e ⟨[.k (.ptr 0 0), .d (.int .i64)], [.box [.g T_ops_reader]], fun x y => s1c x.2.1 y.1.1.1 y.1.1.2.1 some⟩ := fun x y => Eq.trans (b := s1c x.2.1 y.1.1.1 y.1.1.2.1 fun r => some (e r)) (by kernel_rfl) (by simp only [s1c, bif_bind, sum_bind, oa, os, on, ofs])
end
mutual
def s0 : Nat → Int → Bool → ByteArray → Int → Option (ByteArray × ByteArray × Int)
  | 0, _, _, _, _ => none
  | k + 1, x0, x1, x2, x3 => s0c (rows_reader_fail.f k) (s1 k) x0 x1 x2 x3 some
def s1 : Nat → Int → ByteArray → Int → Option (ByteArray × ByteArray × Int)
  | 0, _, _, _ => none
  | k + 1, x0, x1, x2 => s1c  x0 x1 x2 some
end
def f (k : Nat) (a0 : Int) (a1 : ByteArray) (a2 : Int) : Option (ByteArray × ByteArray × Int) := c (s0 k) a0 a1 a2 some
noncomputable abbrev E (k : Nat) : FEnv := env (rows_reader_fail.f k) (s0 k) (s1 k)
theorem hE (k : Nat) : EnvOK (E k).toEnv := ctsOK (L.cons (rows_reader_fail.ok k) L.nil)
theorem segs_ok : ∀ k, ∀ s ∈ [sg0 (s0 k), sg1 (s1 k)], SegB prog f130 1 s
  | 0 => (L.cons (sg_none (L.cons (fun _ _ => rfl) L.nil)) (L.cons (sg_none (L.cons (fun _ _ => rfl) L.nil)) L.nil))
  | k + 1 => (L.cons (sg_ok (hE k) (segs_ok k) (L.cons s0_ev L.nil)) (L.cons (sg_ok (hE k) (segs_ok k) (L.cons s1_ev L.nil)) L.nil))
theorem ok (k : Nat) : CtOK prog 130 (ct (f k)) := fn_ok func130 rfl (by decide) (hE k) (segs_ok k) (L.cons ev L.nil)
end rows_reader_take
namespace pack_ReadInt
def e (r : Int × ByteArray × Int) : Res := ⟨.tup [(.one (.d (.int .i64) r.1)), (.one (.d .str r.2.1)), (.one (.d (.int .i64) r.2.2))], []⟩
abbrev G : Type := ByteArray → Option (Int × ByteArray × Int)
def ct (g : G) : Ct := mkCt 0 [] [⟨[.d .str], [], fun x y => g x.1⟩] e
section
variable {β : Type} (g66 : pack_ReadUint.G)
noncomputable abbrev env : FEnv := mkEnv prog f132 [(66, pack_ReadUint.ct g66)] 0 [] []
def c (a0 : ByteArray) (ret : (Int × ByteArray × Int) → Option β) : Option β := ((g66 a0).bind fun r0 => (bif (r0.2.2 != (0 : Int)) then (ret ((0 : Int), (ByteArray.mk (List.toArray [])), r0.2.2)) else (ret ((IntKind.wrap IntKind.i64 ((BitVec.toNat ((BitVec.ofInt (64 : Nat) (IntKind.wrap IntKind.i64 (Int.fdiv r0.1 (2 : Int)))) ^^^ (BitVec.ofInt (64 : Nat) (IntKind.wrap IntKind.i64 ((0 : Int) - (IntKind.wrap IntKind.i64 (IntKind.wrap IntKind.u64 ((BitVec.toNat ((BitVec.ofInt (64 : Nat) r0.1) &&& (BitVec.ofInt (64 : Nat) (1 : Int)))) : Int)))))))) : Int)), r0.2.1, (0 : Int)))))
variable {g66}
theorem ev : EvA (env g66) [] [0] e ⟨[.d .str], [], fun x y => c g66 x.1 some⟩ := fun x y => Eq.trans (b := c g66 x.1 fun r => some (e r)) (by kernel_rfl) (by simp only [c, bif_bind, sum_bind, oa, os, on, ofs])
end
def f (k : Nat) (a0 : ByteArray) : Option (Int × ByteArray × Int) := c (pack_ReadUint.f k) a0 some
noncomputable abbrev E (k : Nat) : FEnv := env (pack_ReadUint.f k) 
theorem hE (k : Nat) : EnvOK (E k).toEnv := ctsOK (L.cons (pack_ReadUint.ok k) L.nil)
theorem ok (k : Nat) : CtOK prog 132 (ct (f k)) := fn_ok func132 rfl (by decide) (hE k) L.nil (L.cons ev L.nil)
end pack_ReadInt
namespace rows_reader_value
def e (r : Int × Int × Int × ByteArray × ByteArray × Int) : Res := ⟨.v (.agg [(.d (.int .i64) r.1), (.d (.int .i64) r.2.1), (.d (.int .u64) r.2.2.1), (.d .str r.2.2.2.1)]), [some (.box [(.d .str r.2.2.2.2.1), (.d (.int .i64) r.2.2.2.2.2)])]⟩
abbrev G : Type := ByteArray → Int → Option (Int × Int × Int × ByteArray × ByteArray × Int)
def ct (g : G) : Ct := mkCt 1 [] [⟨[.k (.ptr 0 0)], [.box [.g T_ops_reader]], fun x y => g y.1.1.1 y.1.1.2.1⟩] e
abbrev S0 : Type := ByteArray → Int → Int → Int → Int → ByteArray → Int → Int → Int → ByteArray → Option (Int × Int × Int × ByteArray × ByteArray × Int)
abbrev S1 : Type := ByteArray → Int → Int → ByteArray → Int → Int → Int → Int → ByteArray → Int → Int → Int → ByteArray → Option (Int × Int × Int × ByteArray × ByteArray × Int)
abbrev S2 : Type := Bool → ByteArray → Int → Int → Int → Int → ByteArray → Int → Int → Int → ByteArray → Option (Int × Int × Int × ByteArray × ByteArray × Int)
def sg0 (s : S0) : Seg := mkSg [1, 1, 1] [] [0, 2, 3] [⟨[.k (.ptr 0 0), .k (.ptr 1 0), .k (.ptr 2 0)], [.box [.g T_ops_reader], .box [.g T_api_Value], .box [.g T_api_Value]], fun x y => s y.1.1.1 y.1.1.2.1 y.2.1.1.1 y.2.1.1.2.1 y.2.1.1.2.2.1 y.2.1.1.2.2.2.1 y.2.2.1.1.1 y.2.2.1.1.2.1 y.2.2.1.1.2.2.1 y.2.2.1.1.2.2.2.1⟩] e
def sg1 (s : S1) : Seg := mkSg [4, 1, 1, 2, 1, 3, 1, 3, 1, 3, 1, 4, 1, 0, 1, 1, 1] [] [0, 2, 3, 9, 68, 69] [⟨[.k (.ptr 0 0), .k (.ptr 1 0), .k (.ptr 2 0), .d .str, .d (.int .i64), .d (.int .i64)], [.box [.g T_ops_reader], .box [.g T_api_Value], .box [.g T_api_Value]], fun x y => s x.2.2.2.1 x.2.2.2.2.1 x.2.2.2.2.2.1 y.1.1.1 y.1.1.2.1 y.2.1.1.1 y.2.1.1.2.1 y.2.1.1.2.2.1 y.2.1.1.2.2.2.1 y.2.2.1.1.1 y.2.2.1.1.2.1 y.2.2.1.1.2.2.1 y.2.2.1.1.2.2.2.1⟩] e
def sg2 (s : S2) : Seg := mkSg [1, 3, 1, 3, 1, 3, 1, 3, 1, 4, 1, 0, 1, 1, 1] [] [0, 2, 3, 82] [⟨[.k (.ptr 0 0), .k (.ptr 1 0), .k (.ptr 2 0), .d .bool], [.box [.g T_ops_reader], .box [.g T_api_Value], .box [.g T_api_Value]], fun x y => s x.2.2.2.1 y.1.1.1 y.1.1.2.1 y.2.1.1.1 y.2.1.1.2.1 y.2.1.1.2.2.1 y.2.1.1.2.2.2.1 y.2.2.1.1.1 y.2.2.1.1.2.1 y.2.2.1.1.2.2.1 y.2.2.1.1.2.2.2.1⟩] e
section
variable {β : Type} (g67 : pack_ReadText.G) (g74 : values_Check.G) (g130 : rows_reader_take.G) (g131 : rows_reader_fail.G) (g132 : pack_ReadInt.G) (s0 : S0) (s1 : S1) (s2 : S2)
noncomputable abbrev env : FEnv := mkEnv prog f107 [(67, pack_ReadText.ct g67), (74, values_Check.ct g74), (130, rows_reader_take.ct g130), (131, rows_reader_fail.ct g131), (132, pack_ReadInt.ct g132)] 1 [] [sg0 s0, sg1 s1, sg2 s2]
def c (a0 : ByteArray) (a1 : Int) (ret : (Int × Int × Int × ByteArray × ByteArray × Int) → Option β) : Option β := ((g130 (1 : Int) a0 a1).bind fun r0 => (bif (!((ByteArray.toList r0.1) == (ByteArray.toList (ByteArray.mk (List.toArray []))))) then (bif (true && (decide ((0 : Int) < ((ByteArray.size r0.1) : Int)))) then ((s0 r0.2.1 r0.2.2 (0 : Int) (0 : Int) (0 : Int) (ByteArray.mk (List.toArray [])) (IntKind.wrap IntKind.i64 (bt r0.1 (0 : Int))) (0 : Int) (0 : Int) (ByteArray.mk (List.toArray []))).bind ret) else none) else ((s0 r0.2.1 r0.2.2 (0 : Int) (0 : Int) (0 : Int) (ByteArray.mk (List.toArray [])) (0 : Int) (0 : Int) (0 : Int) (ByteArray.mk (List.toArray []))).bind ret)))
def s0c (x0 : ByteArray) (x1 : Int) (x2 : Int) (x3 : Int) (x4 : Int) (x5 : ByteArray) (x6 : Int) (x7 : Int) (x8 : Int) (x9 : ByteArray) (ret : (Int × Int × Int × ByteArray × ByteArray × Int) → Option β) : Option β := (bif (x6 == (0 : Int)) then ((g74 x6 x7 x8 x9).bind fun r0 => ((g131 r0 x0 x1).bind fun r1 => (ret (x6, x7, x8, x9, r1.1, r1.2)))) else (bif (x6 == (1 : Int)) then ((g130 (1 : Int) x0 x1).bind fun r2 => (bif (!((ByteArray.toList r2.1) == (ByteArray.toList (ByteArray.mk (List.toArray []))))) then (bif (true && (decide ((0 : Int) < ((ByteArray.size r2.1) : Int)))) then (bif (decide ((IntKind.wrap IntKind.i64 (bt r2.1 (0 : Int))) > (1 : Int))) then ((g131 (6 : Int) r2.2.1 r2.2.2).bind fun r3 => ((g74 x6 (IntKind.wrap IntKind.i64 (bt r2.1 (0 : Int))) x8 x9).bind fun r4 => ((g131 r4 r3.1 r3.2).bind fun r5 => (ret (x6, (IntKind.wrap IntKind.i64 (bt r2.1 (0 : Int))), x8, x9, r5.1, r5.2))))) else ((g74 x6 (IntKind.wrap IntKind.i64 (bt r2.1 (0 : Int))) x8 x9).bind fun r6 => ((g131 r6 r2.2.1 r2.2.2).bind fun r7 => (ret (x6, (IntKind.wrap IntKind.i64 (bt r2.1 (0 : Int))), x8, x9, r7.1, r7.2))))) else none) else (bif (decide (x7 > (1 : Int))) then ((g131 (6 : Int) r2.2.1 r2.2.2).bind fun r8 => ((g74 x6 x7 x8 x9).bind fun r9 => ((g131 r9 r8.1 r8.2).bind fun r10 => (ret (x6, x7, x8, x9, r10.1, r10.2))))) else ((g74 x6 x7 x8 x9).bind fun r11 => ((g131 r11 r2.2.1 r2.2.2).bind fun r12 => (ret (x6, x7, x8, x9, r12.1, r12.2))))))) else (bif (x6 == (2 : Int)) then ((g132 x0).bind fun r13 => ((g131 r13.2.2 r13.2.1 x1).bind fun r14 => ((g74 x6 r13.1 x8 x9).bind fun r15 => ((g131 r15 r14.1 r14.2).bind fun r16 => (ret (x6, r13.1, x8, x9, r16.1, r16.2)))))) else (bif (x6 == (3 : Int)) then ((g130 (8 : Int) x0 x1).bind fun r17 => ((s1 r17.1 ((ByteArray.size r17.1) : Int) (0 : Int) r17.2.1 r17.2.2 x2 x3 x4 x5 x6 x7 x8 x9).bind ret)) else (bif (x6 == (4 : Int)) then ((s2 (x6 == (4 : Int)) x0 x1 x2 x3 x4 x5 x6 x7 x8 x9).bind ret) else ((s2 (x6 == (5 : Int)) x0 x1 x2 x3 x4 x5 x6 x7 x8 x9).bind ret))))))
def s1c (x0 : ByteArray) (x1 : Int) (x2 : Int) (x3 : ByteArray) (x4 : Int) (x5 : Int) (x6 : Int) (x7 : Int) (x8 : ByteArray) (x9 : Int) (x10 : Int) (x11 : Int) (x12 : ByteArray) (ret : (Int × Int × Int × ByteArray × ByteArray × Int) → Option β) : Option β := (bif (decide (x2 < x1)) then (bif ((decide ((0 : Int) ≤ x2)) && (decide (x2 < ((ByteArray.size x0) : Int)))) then ((s1 x0 x1 (IntKind.wrap IntKind.i64 (x2 + (1 : Int))) x3 x4 x5 x6 x7 x8 x9 x10 (IntKind.wrap IntKind.u64 ((BitVec.toNat ((BitVec.ofInt (64 : Nat) (IntKind.wrap IntKind.u64 (x11 * (256 : Int)))) ||| (BitVec.ofInt (64 : Nat) (IntKind.wrap IntKind.u64 (bt x0 x2))))) : Int)) x12).bind ret) else none) else ((g74 x9 x10 x11 x12).bind fun r0 => ((g131 r0 x3 x4).bind fun r1 => (ret (x9, x10, x11, x12, r1.1, r1.2)))))
def s2c (x0 : Bool) (x1 : ByteArray) (x2 : Int) (x3 : Int) (x4 : Int) (x5 : Int) (x6 : ByteArray) (x7 : Int) (x8 : Int) (x9 : Int) (x10 : ByteArray) (ret : (Int × Int × Int × ByteArray × ByteArray × Int) → Option β) : Option β := (bif x0 then ((g67 x1).bind fun r0 => ((g131 r0.2.2 r0.2.1 x2).bind fun r1 => ((g74 x7 x8 x9 r0.1).bind fun r2 => ((g131 r2 r1.1 r1.2).bind fun r3 => (ret (x7, x8, x9, r0.1, r3.1, r3.2)))))) else ((g131 (5 : Int) x1 x2).bind fun r4 => ((g74 x7 x8 x9 x10).bind fun r5 => ((g131 r5 r4.1 r4.2).bind fun r6 => (ret (x7, x8, x9, x10, r6.1, r6.2))))))
variable {g67} {g74} {g130} {g131} {g132} {s0} {s1} {s2}
theorem ev : EvA (env g67 g74 g130 g131 g132 s0 s1 s2) [] [0] e ⟨[.k (.ptr 0 0)], [.box [.g T_ops_reader]], fun x y => c g130 s0 y.1.1.1 y.1.1.2.1 some⟩ := fun x y => Eq.trans (b := c g130 s0 y.1.1.1 y.1.1.2.1 fun r => some (e r)) (by kernel_rfl) (by simp only [c, bif_bind, sum_bind, oa, os, on, ofs])
theorem s0_ev : EvA (env g67 g74 g130 g131 g132 s0 s1 s2) [1, 1, 1] [0, 2, 3] e ⟨[.k (.ptr 0 0), .k (.ptr 1 0), .k (.ptr 2 0)], [.box [.g T_ops_reader], .box [.g T_api_Value], .box [.g T_api_Value]], fun x y => s0c g74 g130 g131 g132 s1 s2 y.1.1.1 y.1.1.2.1 y.2.1.1.1 y.2.1.1.2.1 y.2.1.1.2.2.1 y.2.1.1.2.2.2.1 y.2.2.1.1.1 y.2.2.1.1.2.1 y.2.2.1.1.2.2.1 y.2.2.1.1.2.2.2.1 some⟩ := fun x y => Eq.trans (b := s0c g74 g130 g131 g132 s1 s2 y.1.1.1 y.1.1.2.1 y.2.1.1.1 y.2.1.1.2.1 y.2.1.1.2.2.1 y.2.1.1.2.2.2.1 y.2.2.1.1.1 y.2.2.1.1.2.1 y.2.2.1.1.2.2.1 y.2.2.1.1.2.2.2.1 fun r => some (e r)) (by kernel_rfl) (by simp only [s0c, bif_bind, sum_bind, oa, os, on, ofs])
theorem s1_ev : EvA (env g67 g74 g130 g131 g132 s0 s1 s2) [4, 1, 1, 2, 1, 3, 1, 3, 1, 3, 1, 4, 1, 0, 1, 1, 1] [0, 2, 3, 9, 68, 69] e ⟨[.k (.ptr 0 0), .k (.ptr 1 0), .k (.ptr 2 0), .d .str, .d (.int .i64), .d (.int .i64)], [.box [.g T_ops_reader], .box [.g T_api_Value], .box [.g T_api_Value]], fun x y => s1c g74 g131 s1 x.2.2.2.1 x.2.2.2.2.1 x.2.2.2.2.2.1 y.1.1.1 y.1.1.2.1 y.2.1.1.1 y.2.1.1.2.1 y.2.1.1.2.2.1 y.2.1.1.2.2.2.1 y.2.2.1.1.1 y.2.2.1.1.2.1 y.2.2.1.1.2.2.1 y.2.2.1.1.2.2.2.1 some⟩ := fun x y => Eq.trans (b := s1c g74 g131 s1 x.2.2.2.1 x.2.2.2.2.1 x.2.2.2.2.2.1 y.1.1.1 y.1.1.2.1 y.2.1.1.1 y.2.1.1.2.1 y.2.1.1.2.2.1 y.2.1.1.2.2.2.1 y.2.2.1.1.1 y.2.2.1.1.2.1 y.2.2.1.1.2.2.1 y.2.2.1.1.2.2.2.1 fun r => some (e r)) (by kernel_rfl) (by simp only [s1c, bif_bind, sum_bind, oa, os, on, ofs])
theorem s2_ev : EvA (env g67 g74 g130 g131 g132 s0 s1 s2) [1, 3, 1, 3, 1, 3, 1, 3, 1, 4, 1, 0, 1, 1, 1] [0, 2, 3, 82] e ⟨[.k (.ptr 0 0), .k (.ptr 1 0), .k (.ptr 2 0), .d .bool], [.box [.g T_ops_reader], .box [.g T_api_Value], .box [.g T_api_Value]], fun x y => s2c g67 g74 g131 x.2.2.2.1 y.1.1.1 y.1.1.2.1 y.2.1.1.1 y.2.1.1.2.1 y.2.1.1.2.2.1 y.2.1.1.2.2.2.1 y.2.2.1.1.1 y.2.2.1.1.2.1 y.2.2.1.1.2.2.1 y.2.2.1.1.2.2.2.1 some⟩ := fun x y => Eq.trans (b := s2c g67 g74 g131 x.2.2.2.1 y.1.1.1 y.1.1.2.1 y.2.1.1.1 y.2.1.1.2.1 y.2.1.1.2.2.1 y.2.1.1.2.2.2.1 y.2.2.1.1.1 y.2.2.1.1.2.1 y.2.2.1.1.2.2.1 y.2.2.1.1.2.2.2.1 fun r => some (e r)) (by kernel_rfl) (by simp only [s2c, bif_bind, sum_bind, oa, os, on, ofs])
end
mutual
def s0 : Nat → ByteArray → Int → Int → Int → Int → ByteArray → Int → Int → Int → ByteArray → Option (Int × Int × Int × ByteArray × ByteArray × Int)
  | 0, _, _, _, _, _, _, _, _, _, _ => none
  | k + 1, x0, x1, x2, x3, x4, x5, x6, x7, x8, x9 => s0c (values_Check.f k) (rows_reader_take.f k) (rows_reader_fail.f k) (pack_ReadInt.f k) (s1 k) (s2 k) x0 x1 x2 x3 x4 x5 x6 x7 x8 x9 some
def s1 : Nat → ByteArray → Int → Int → ByteArray → Int → Int → Int → Int → ByteArray → Int → Int → Int → ByteArray → Option (Int × Int × Int × ByteArray × ByteArray × Int)
  | 0, _, _, _, _, _, _, _, _, _, _, _, _, _ => none
  | k + 1, x0, x1, x2, x3, x4, x5, x6, x7, x8, x9, x10, x11, x12 => s1c (values_Check.f k) (rows_reader_fail.f k) (s1 k) x0 x1 x2 x3 x4 x5 x6 x7 x8 x9 x10 x11 x12 some
def s2 : Nat → Bool → ByteArray → Int → Int → Int → Int → ByteArray → Int → Int → Int → ByteArray → Option (Int × Int × Int × ByteArray × ByteArray × Int)
  | 0, _, _, _, _, _, _, _, _, _, _, _ => none
  | k + 1, x0, x1, x2, x3, x4, x5, x6, x7, x8, x9, x10 => s2c (pack_ReadText.f k) (values_Check.f k) (rows_reader_fail.f k) x0 x1 x2 x3 x4 x5 x6 x7 x8 x9 x10 some
end
def f (k : Nat) (a0 : ByteArray) (a1 : Int) : Option (Int × Int × Int × ByteArray × ByteArray × Int) := c (rows_reader_take.f k) (s0 k) a0 a1 some
noncomputable abbrev E (k : Nat) : FEnv := env (pack_ReadText.f k) (values_Check.f k) (rows_reader_take.f k) (rows_reader_fail.f k) (pack_ReadInt.f k) (s0 k) (s1 k) (s2 k)
theorem hE (k : Nat) : EnvOK (E k).toEnv := ctsOK (L.cons (pack_ReadText.ok k) (L.cons (values_Check.ok k) (L.cons (rows_reader_take.ok k) (L.cons (rows_reader_fail.ok k) (L.cons (pack_ReadInt.ok k) L.nil)))))
theorem segs_ok : ∀ k, ∀ s ∈ [sg0 (s0 k), sg1 (s1 k), sg2 (s2 k)], SegB prog f107 1 s
  | 0 => (L.cons (sg_none (L.cons (fun _ _ => rfl) L.nil)) (L.cons (sg_none (L.cons (fun _ _ => rfl) L.nil)) (L.cons (sg_none (L.cons (fun _ _ => rfl) L.nil)) L.nil)))
  | k + 1 => (L.cons (sg_ok (hE k) (segs_ok k) (L.cons s0_ev L.nil)) (L.cons (sg_ok (hE k) (segs_ok k) (L.cons s1_ev L.nil)) (L.cons (sg_ok (hE k) (segs_ok k) (L.cons s2_ev L.nil)) L.nil)))
theorem ok (k : Nat) : CtOK prog 107 (ct (f k)) := fn_ok func107 rfl (by decide) (hE k) (segs_ok k) (L.cons ev L.nil)
end rows_reader_value
namespace rows_Read
def e (r : (List D_api_Value) × Int) : Res := ⟨.tup [(.one (.d (.sl T_api_Value) r.1)), (.one (.d (.int .i64) r.2))], []⟩
abbrev G : Type := ByteArray → Option ((List D_api_Value) × Int)
def ct (g : G) : Ct := mkCt 0 [] [⟨[.d .str], [], fun x y => g x.1⟩] e
abbrev S0 : Type := Int → Int → ByteArray → Int → (List D_api_Value) → Option ((List D_api_Value) × Int)
def sg0 (s : S0) : Seg := mkSg [4, 1, 0, 1, 1, 1, 1, 1] [.own 8 T_api_Value] [7, 8, 26, 27] [⟨[.k (.ptr 0 0), .k (.own 1), .d (.int .i64), .d (.int .i64)], [.box [.g T_ops_reader], .own T_api_Value false], fun x y => s x.2.2.1 x.2.2.2.1 y.1.1.1 y.1.1.2.1 y.2.1⟩] e
section
variable {β : Type} (g66 : pack_ReadUint.G) (g107 : rows_reader_value.G) (s0 : S0)
noncomputable abbrev env : FEnv := mkEnv prog f78 [(66, pack_ReadUint.ct g66), (107, rows_reader_value.ct g107)] 0 [] [sg0 s0]
def c (a0 : ByteArray) (ret : ((List D_api_Value) × Int) → Option β) : Option β := ((g66 a0).bind fun r0 => (bif (r0.2.2 != (0 : Int)) then (ret ([], r0.2.2)) else (bif (decide (r0.1 > (8 : Int))) then (ret ([], (2 : Int))) else ((s0 (IntKind.wrap IntKind.i64 r0.1) (0 : Int) r0.2.1 (0 : Int) []).bind ret))))
def s0c (x0 : Int) (x1 : Int) (x2 : ByteArray) (x3 : Int) (x4 : List D_api_Value) (ret : ((List D_api_Value) × Int) → Option β) : Option β := (bif (decide (x1 < x0)) then ((g107 x2 x3).bind fun r0 => (bif (decide ((((List.length x4) + (1 : Nat)) * (40 : Nat)) ≤ (35184372088832 : Nat))) then (bif (r0.2.2.2.2.2 != (0 : Int)) then (ret ([], r0.2.2.2.2.2)) else ((s0 x0 (IntKind.wrap IntKind.i64 (x1 + (1 : Int))) r0.2.2.2.2.1 r0.2.2.2.2.2 (x4 ++ [(r0.1, (r0.2.1, (r0.2.2.1, (r0.2.2.2.1, ()))))])).bind ret)) else none)) else (bif (!((ByteArray.toList x2) == (ByteArray.toList (ByteArray.mk (List.toArray []))))) then (ret ([], (4 : Int))) else (ret (x4, (0 : Int)))))
variable {g66} {g107} {s0}
theorem ev : EvA (env g66 g107 s0) [] [0] e ⟨[.d .str], [], fun x y => c g66 s0 x.1 some⟩ := fun x y => Eq.trans (b := c g66 s0 x.1 fun r => some (e r)) (by kernel_rfl) (by simp only [c, bif_bind, sum_bind, oa, os, on, ofs])
theorem s0_ev : EvA (env g66 g107 s0) [4, 1, 0, 1, 1, 1, 1, 1] [7, 8, 26, 27] e ⟨[.k (.ptr 0 0), .k (.own 1), .d (.int .i64), .d (.int .i64)], [.box [.g T_ops_reader], .own T_api_Value false], fun x y => s0c g107 s0 x.2.2.1 x.2.2.2.1 y.1.1.1 y.1.1.2.1 y.2.1 some⟩ := fun x y => Eq.trans (b := s0c g107 s0 x.2.2.1 x.2.2.2.1 y.1.1.1 y.1.1.2.1 y.2.1 fun r => some (e r)) (by kernel_rfl) (by simp only [s0c, bif_bind, sum_bind, oa, os, on, ofs])
end
def s0 : Nat → Int → Int → ByteArray → Int → (List D_api_Value) → Option ((List D_api_Value) × Int)
  | 0, _, _, _, _, _ => none
  | k + 1, x0, x1, x2, x3, x4 => s0c (rows_reader_value.f k) (s0 k) x0 x1 x2 x3 x4 some
def f (k : Nat) (a0 : ByteArray) : Option ((List D_api_Value) × Int) := c (pack_ReadUint.f k) (s0 k) a0 some
noncomputable abbrev E (k : Nat) : FEnv := env (pack_ReadUint.f k) (rows_reader_value.f k) (s0 k)
theorem hE (k : Nat) : EnvOK (E k).toEnv := ctsOK (L.cons (pack_ReadUint.ok k) (L.cons (rows_reader_value.ok k) L.nil))
theorem segs_ok : ∀ k, ∀ s ∈ [sg0 (s0 k)], SegB prog f78 0 s
  | 0 => (L.cons (sg_none (L.cons (fun _ _ => rfl) L.nil)) L.nil)
  | k + 1 => (L.cons (sg_ok (hE k) (segs_ok k) (L.cons s0_ev L.nil)) L.nil)
theorem ok (k : Nat) : CtOK prog 78 (ct (f k)) := fn_ok func78 rfl (by decide) (hE k) (segs_ok k) (L.cons ev L.nil)
end rows_Read
namespace ops_reader_row
def e (r : (List D_api_Value) × ByteArray × Int) : Res := ⟨.v (.one (.d (.sl T_api_Value) r.1)), [some (.box [(.d .str r.2.1), (.d (.int .i64) r.2.2)])]⟩
abbrev G : Type := ByteArray → Int → Option ((List D_api_Value) × ByteArray × Int)
def ct (g : G) : Ct := mkCt 1 [] [⟨[.k (.ptr 0 0)], [.box [.g T_ops_reader]], fun x y => g y.1.1.1 y.1.1.2.1⟩] e
section
variable {β : Type} (g40 : ops_reader_text.G) (g78 : rows_Read.G)
noncomputable abbrev env : FEnv := mkEnv prog f54 [(40, ops_reader_text.ct g40), (78, rows_Read.ct g78)] 1 [] []
def c (a0 : ByteArray) (a1 : Int) (ret : ((List D_api_Value) × ByteArray × Int) → Option β) : Option β := ((g40 a0 a1).bind fun r0 => (bif (r0.2.2 != (0 : Int)) then (ret ([], r0.2.1, r0.2.2)) else ((g78 r0.1).bind fun r1 => (ret (r1.1, r0.2.1, r1.2)))))
variable {g40} {g78}
theorem ev : EvA (env g40 g78) [] [0] e ⟨[.k (.ptr 0 0)], [.box [.g T_ops_reader]], fun x y => c g40 g78 y.1.1.1 y.1.1.2.1 some⟩ := fun x y => Eq.trans (b := c g40 g78 y.1.1.1 y.1.1.2.1 fun r => some (e r)) (by kernel_rfl) (by simp only [c, bif_bind, sum_bind, oa, os, on, ofs])
end
def f (k : Nat) (a0 : ByteArray) (a1 : Int) : Option ((List D_api_Value) × ByteArray × Int) := c (ops_reader_text.f k) (rows_Read.f k) a0 a1 some
noncomputable abbrev E (k : Nat) : FEnv := env (ops_reader_text.f k) (rows_Read.f k) 
theorem hE (k : Nat) : EnvOK (E k).toEnv := ctsOK (L.cons (ops_reader_text.ok k) (L.cons (rows_Read.ok k) L.nil))
theorem ok (k : Nat) : CtOK prog 54 (ct (f k)) := fn_ok func54 rfl (by decide) (hE k) L.nil (L.cons ev L.nil)
end ops_reader_row
end Go.Proofs.YtaehpfmnejeddaaGreatDoor.Aev
