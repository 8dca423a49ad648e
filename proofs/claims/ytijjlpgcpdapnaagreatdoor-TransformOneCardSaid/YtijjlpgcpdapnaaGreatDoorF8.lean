/- By a program of this session (AEV): functions of the program as plain functions, and that the machine does what they say. -/
import Derived.Test.YtijjlpgcpdapnaaGreatDoorTys
import Derived.Test.YtijjlpgcpdapnaaGreatDoorProg
import Derived.Laws.Externs
import Derived.Lib.Bytealg
import Derived.Test.YtijjlpgcpdapnaaGreatDoorF5
import Derived.Test.YtijjlpgcpdapnaaGreatDoorF6
import Derived.Test.YtijjlpgcpdapnaaGreatDoorF7
namespace Go.Proofs.YtijjlpgcpdapnaaGreatDoor.Aev
set_option linter.unusedVariables false
set_option linter.unusedSimpArgs false
set_option maxRecDepth 100000
set_option maxHeartbeats 4000000
open Go Go.Proofs.Tryz
namespace transomref07_Digits
def e (r : ByteArray) : Res := ⟨.v (.one (.d .str r)), []⟩
abbrev T (δ : Type) : Type := Int → Option δ
abbrev A {δ : Type} (g : T δ) : Arm δ := ⟨[.d (.int .i64)], [], fun x y => g x.1⟩
abbrev G : Type := T ByteArray
def ct (g : G) : Ct := mkCt 0 [] [A g] e
abbrev S0 (δ : Type) : Type := Int → Int → Option δ
abbrev A_0 {δ : Type} (s : S0 δ) : Arm δ := ⟨[.d (.int .i64), .d (.int .u64)], [], fun x y => s x.1 x.2.1⟩
abbrev S1 (δ : Type) : Type := Int → Int → ByteArray → Option δ
abbrev A_1 {δ : Type} (s : S1 δ) : Arm δ := ⟨[.d (.int .i64), .d (.int .u64), .d .str], [], fun x y => s x.1 x.2.1 x.2.2.1⟩
def sg0 (s : S0 ByteArray) : Seg := mkSg [1, 1, 1] [] [0, 3] [A_0 s] e
def sg1 (s : S1 ByteArray) : Seg := mkSg [4, 0, 1, 1, 1, 1] [] [0, 3, 4] [A_1 s] e
section
variable {β : Type} (s0 : S0 ByteArray) (s1 : S1 ByteArray)
noncomputable abbrev env : FEnv := mkEnv prog f92 [] 0 [] [sg0 s0, sg1 s1]
def c (ret : ByteArray → Option β) (a0 : Int) : Option β := (bif (decide (a0 < (0 : Int))) then ((s0 a0 (IntKind.wrap .u64 ((0 : Int) - (IntKind.wrap .u64 a0)))).bind ret) else ((s0 a0 (IntKind.wrap .u64 a0)).bind ret))
def s0c (ret : ByteArray → Option β) (x0 : Int) (x1 : Int) : Option β := ((s1 x0 x1 (ByteArray.mk (List.toArray []))).bind ret)
def s1c (ret : ByteArray → Option β) (x0 : Int) (x1 : Int) (x2 : ByteArray) : Option β := (bif (decide (x1 ≥ (10 : Int))) then (bif (true && (decide (x2.size ≤ (4611686018427387903 : Nat)))) then ((s1 x0 (IntKind.wrap .u64 (Int.tdiv x1 (10 : Int))) ((ByteArray.mk (List.toArray (List.map (fun n => (UInt8.ofNat (Int.toNat n))) [(IntKind.wrap .u8 (IntKind.wrap .u64 ((48 : Int) + (Int.tmod x1 (10 : Int)))))]))) ++ x2)).bind ret) else none) else (bif (true && (decide (x2.size ≤ (4611686018427387903 : Nat)))) then (bif (decide (x0 < (0 : Int))) then (bif (true && (decide ((ByteArray.size ((ByteArray.mk (List.toArray (List.map (fun n => (UInt8.ofNat (Int.toNat n))) [(IntKind.wrap .u8 (IntKind.wrap .u64 ((48 : Int) + x1)))]))) ++ x2)) ≤ (4611686018427387903 : Nat)))) then (ret (((ByteArray.mk (List.toArray [(45 : UInt8)])) ++ ((ByteArray.mk (List.toArray (List.map (fun n => (UInt8.ofNat (Int.toNat n))) [(IntKind.wrap .u8 (IntKind.wrap .u64 ((48 : Int) + x1)))]))) ++ x2)))) else none) else (ret (((ByteArray.mk (List.toArray (List.map (fun n => (UInt8.ofNat (Int.toNat n))) [(IntKind.wrap .u8 (IntKind.wrap .u64 ((48 : Int) + x1)))]))) ++ x2)))) else none))
variable {s0} {s1}
theorem ev : EvA (env s0 s1) [] [0] e (A (c s0 some)) := fun x y => Eq.trans (b := (A (c s0 fun r => some (e r))).G x y) (by kernel_rfl) (by simp only [A, c, bif_bind, sum_bind, oa, os, on, ofs])
theorem s0_ev : EvA (env s0 s1) [1, 1, 1] [0, 3] e (A_0 (s0c s1 some)) := fun x y => Eq.trans (b := (A_0 (s0c s1 fun r => some (e r))).G x y) (by kernel_rfl) (by simp only [A_0, s0c, bif_bind, sum_bind, oa, os, on, ofs])
theorem s1_ev : EvA (env s0 s1) [4, 0, 1, 1, 1, 1] [0, 3, 4] e (A_1 (s1c s1 some)) := fun x y => Eq.trans (b := (A_1 (s1c s1 fun r => some (e r))).G x y) (by kernel_rfl) (by simp only [A_1, s1c, bif_bind, sum_bind, oa, os, on, ofs])
end
mutual
def s0 : Nat → S0 ByteArray
  | 0, _, _ => none
  | k + 1, x0, x1 => s0c (s1 k) some x0 x1
def s1 : Nat → S1 ByteArray
  | 0, _, _, _ => none
  | k + 1, x0, x1, x2 => s1c (s1 k) some x0 x1 x2
end
def f (k : Nat) (a0 : Int) : Option ByteArray := c (s0 k) some a0
noncomputable abbrev E (k : Nat) : FEnv := env  (s0 k) (s1 k)
theorem hE (k : Nat) : EnvOK (E k).toEnv := ctsOK L0
theorem segs_ok : ∀ k, ∀ s ∈ [sg0 (s0 k), sg1 (s1 k)], SegB prog f92 0 s
  | 0 => (Lc (sg_none (Lc (fun _ _ => rfl) L0)) (Lc (sg_none (Lc (fun _ _ => rfl) L0)) L0))
  | k + 1 => (Lc (sg_ok (hE k) (segs_ok k) (Lc s0_ev L0)) (Lc (sg_ok (hE k) (segs_ok k) (Lc s1_ev L0)) L0))
theorem ok (k : Nat) : CtOK prog 92 (ct (f k)) := fn_ok func92 rfl (by decide) (hE k) (segs_ok k) (Lc ev L0)
end transomref07_Digits
namespace transomref07_fromInt
abbrev R : Type := Int × Int × Int × ByteArray × Int
def e (r : R) : Res := ⟨.tup [(.agg [(.d (.int .i64) r.1), (.d (.int .i64) r.2.1), (.d (.int .u64) r.2.2.1), (.d .str r.2.2.2.1)]), (.one (.d (.int .i64) r.2.2.2.2))], []⟩
abbrev T (δ : Type) : Type := Int → Int → Option δ
abbrev A {δ : Type} (g : T δ) : Arm δ := ⟨[.d (.int .i64), .d (.int .i64)], [], fun x y => g x.1 x.2.1⟩
abbrev G : Type := T R
def ct (g : G) : Ct := mkCt 0 [] [A g] e
section
variable {β : Type} (g89 : transomref02_FromInt.G) (g90 : transomref07_truth.G) (g91 : transomref05_Eight.G) (g92 : transomref07_Digits.G)
noncomputable abbrev env : FEnv := mkEnv prog f66 [(89, transomref02_FromInt.ct g89), (90, transomref07_truth.ct g90), (91, transomref05_Eight.ct g91), (92, transomref07_Digits.ct g92)] 0 [] []
def c (ret : R → Option β) (a0 : Int) (a1 : Int) : Option β := (bif (a1 == (1 : Int)) then ((g90 a0).bind fun r0 => (ret (r0.1, r0.2.1, r0.2.2.1, r0.2.2.2.1, r0.2.2.2.2))) else (bif (a1 == (3 : Int)) then ((g89 a0).bind fun r1 => (bif (!r1.2) then (ret ((0 : Int), (0 : Int), (0 : Int), (ByteArray.mk (List.toArray [])), (6 : Int))) else (ret (a1, (0 : Int), r1.1, (ByteArray.mk (List.toArray [])), (0 : Int))))) else (bif (a1 == (4 : Int)) then ((g91 (IntKind.wrap .u64 a0)).bind fun r2 => (ret (a1, (0 : Int), (0 : Int), r2, (0 : Int)))) else ((g92 a0).bind fun r3 => (ret (a1, (0 : Int), (0 : Int), r3, (0 : Int)))))))
variable {g89} {g90} {g91} {g92}
theorem ev : EvA (env g89 g90 g91 g92) [] [0, 1] e (A (c g89 g90 g91 g92 some)) := fun x y => Eq.trans (b := (A (c g89 g90 g91 g92 fun r => some (e r))).G x y) (by kernel_rfl) (by simp only [A, c, bif_bind, sum_bind, oa, os, on, ofs])
end
def f (k : Nat) (a0 : Int) (a1 : Int) : Option R := c (transomref02_FromInt.f k) (transomref07_truth.f k) (transomref05_Eight.f k) (transomref07_Digits.f k) some a0 a1
noncomputable abbrev E (k : Nat) : FEnv := env (transomref02_FromInt.f k) (transomref07_truth.f k) (transomref05_Eight.f k) (transomref07_Digits.f k) 
theorem hE (k : Nat) : EnvOK (E k).toEnv := ctsOK (Lc (transomref02_FromInt.ok k) (Lc (transomref07_truth.ok k) (Lc (transomref05_Eight.ok k) (Lc (transomref07_Digits.ok k) L0))))
theorem ok (k : Nat) : CtOK prog 66 (ct (f k)) := fn_ok func66 rfl (by decide) (hE k) L0 (Lc ev L0)
end transomref07_fromInt
namespace transomref02_ToInt
abbrev R : Type := Int × Bool
def e (r : R) : Res := ⟨.tup [(.one (.d (.int .i64) r.1)), (.one (.d .bool r.2))], []⟩
abbrev T (δ : Type) : Type := Int → Option δ
abbrev A {δ : Type} (g : T δ) : Arm δ := ⟨[.d (.int .u64)], [], fun x y => g x.1⟩
abbrev G : Type := T R
def ct (g : G) : Ct := mkCt 0 [] [A g] e
abbrev S0 (δ : Type) : Type := Int → Int → Int → Bool → Option δ
abbrev A_0 {δ : Type} (s : S0 δ) : Arm δ := ⟨[.d (.int .u64), .d (.int .u64), .d (.int .i64), .d .bool], [], fun x y => s x.1 x.2.1 x.2.2.1 x.2.2.2.1⟩
abbrev S1 (δ : Type) : Type := Int → Int → Int → Option δ
abbrev A_1 {δ : Type} (s : S1 δ) : Arm δ := ⟨[.d (.int .u64), .d (.int .u64), .d (.int .i64)], [], fun x y => s x.1 x.2.1 x.2.2.1⟩
abbrev S2 (δ : Type) : Type := Int → Int → Option δ
abbrev A_2 {δ : Type} (s : S2 δ) : Arm δ := ⟨[.d (.int .u64), .d (.int .u64)], [], fun x y => s x.1 x.2.1⟩
def sg0 (s : S0 R) : Seg := mkSg [1, 0, 1, 1, 1, 1, 1, 1] [] [0, 5, 6, 25] [A_0 s] e
def sg1 (s : S1 R) : Seg := mkSg [1, 1, 1, 1, 1, 1, 1] [] [0, 5, 6] [A_1 s] e
def sg2 (s : S2 R) : Seg := mkSg [1, 1, 1, 1, 1, 1, 1, 1] [] [0, 5] [A_2 s] e
section
variable {β : Type} (g111 : transomref02_Class.G) (g113 : transomref02_fraction.G) (g114 : transomref02_exponent.G) (s0 : S0 R) (s1 : S1 R) (s2 : S2 R)
noncomputable abbrev env : FEnv := mkEnv prog f93 [(111, transomref02_Class.ct g111), (113, transomref02_fraction.ct g113), (114, transomref02_exponent.ct g114)] 0 [] [sg0 s0, sg1 s1, sg2 s2]
def c (ret : R → Option β) (a0 : Int) : Option β := ((g111 a0).bind fun r0 => (bif (r0 == (3 : Int)) then (ret ((0 : Int), true)) else (bif (r0 != (5 : Int)) then (ret ((0 : Int), false)) else ((g113 a0).bind fun r1 => ((g114 a0).bind fun r2 => (bif (decide ((IntKind.wrap .i64 ((IntKind.wrap .i64 (r2 - (1023 : Int))) - (52 : Int))) < (-52 : Int))) then ((s0 a0 (IntKind.wrap .u64 ((BitVec.toNat ((BitVec.ofInt (64 : Nat) r1) ||| (BitVec.ofInt (64 : Nat) (4503599627370496 : Int)))) : Int)) (IntKind.wrap .i64 ((IntKind.wrap .i64 (r2 - (1023 : Int))) - (52 : Int))) true).bind ret) else ((s0 a0 (IntKind.wrap .u64 ((BitVec.toNat ((BitVec.ofInt (64 : Nat) r1) ||| (BitVec.ofInt (64 : Nat) (4503599627370496 : Int)))) : Int)) (IntKind.wrap .i64 ((IntKind.wrap .i64 (r2 - (1023 : Int))) - (52 : Int))) (decide ((IntKind.wrap .i64 ((IntKind.wrap .i64 (r2 - (1023 : Int))) - (52 : Int))) > (11 : Int)))).bind ret)))))))
def s0c (ret : R → Option β) (x0 : Int) (x1 : Int) (x2 : Int) (x3 : Bool) : Option β := (bif x3 then (ret ((0 : Int), false)) else ((s1 x0 x1 x2).bind ret))
def s1c (ret : R → Option β) (x0 : Int) (x1 : Int) (x2 : Int) : Option β := (bif (decide (x2 < (0 : Int))) then (bif (decide ((0 : Int) ≤ (IntKind.wrap .u64 (IntKind.wrap .i64 ((0 : Int) - x2))))) then (bif ((IntKind.wrap .u64 ((BitVec.toNat ((BitVec.ofInt (64 : Nat) x1) &&& (BitVec.ofInt (64 : Nat) (IntKind.wrap .u64 ((IntKind.wrap .u64 ((1 : Int) * ((2 : Int) ^ (Min.min (Int.toNat (IntKind.wrap .u64 (IntKind.wrap .i64 ((0 : Int) - x2)))) (64 : Nat))))) - (1 : Int)))))) : Int)) != (0 : Int)) then (ret ((0 : Int), false)) else (bif (decide ((0 : Int) ≤ (IntKind.wrap .u64 (IntKind.wrap .i64 ((0 : Int) - x2))))) then ((s2 x0 (Int.fdiv x1 ((2 : Int) ^ (Min.min (Int.toNat (IntKind.wrap .u64 (IntKind.wrap .i64 ((0 : Int) - x2)))) (64 : Nat))))).bind ret) else none)) else none) else (bif (decide ((0 : Int) ≤ (IntKind.wrap .u64 x2))) then ((s2 x0 (IntKind.wrap .u64 (x1 * ((2 : Int) ^ (Min.min (Int.toNat (IntKind.wrap .u64 x2)) (64 : Nat)))))).bind ret) else none))
def s2c (ret : R → Option β) (x0 : Int) (x1 : Int) : Option β := (bif ((Int.fdiv x0 (9223372036854775808 : Int)) == (1 : Int)) then (bif (decide (x1 > (9223372036854775808 : Int))) then (ret ((0 : Int), false)) else (ret ((IntKind.wrap .i64 (IntKind.wrap .u64 ((0 : Int) - x1))), true))) else (bif (decide (x1 > (9223372036854775807 : Int))) then (ret ((0 : Int), false)) else (ret ((IntKind.wrap .i64 x1), true))))
variable {g111} {g113} {g114} {s0} {s1} {s2}
theorem ev : EvA (env g111 g113 g114 s0 s1 s2) [] [0] e (A (c g111 g113 g114 s0 some)) := fun x y => Eq.trans (b := (A (c g111 g113 g114 s0 fun r => some (e r))).G x y) (by kernel_rfl) (by simp only [A, c, bif_bind, sum_bind, oa, os, on, ofs])
theorem s0_ev : EvA (env g111 g113 g114 s0 s1 s2) [1, 0, 1, 1, 1, 1, 1, 1] [0, 5, 6, 25] e (A_0 (s0c s1 some)) := fun x y => Eq.trans (b := (A_0 (s0c s1 fun r => some (e r))).G x y) (by kernel_rfl) (by simp only [A_0, s0c, bif_bind, sum_bind, oa, os, on, ofs])
theorem s1_ev : EvA (env g111 g113 g114 s0 s1 s2) [1, 1, 1, 1, 1, 1, 1] [0, 5, 6] e (A_1 (s1c s2 some)) := fun x y => Eq.trans (b := (A_1 (s1c s2 fun r => some (e r))).G x y) (by kernel_rfl) (by simp only [A_1, s1c, bif_bind, sum_bind, oa, os, on, ofs])
theorem s2_ev : EvA (env g111 g113 g114 s0 s1 s2) [1, 1, 1, 1, 1, 1, 1, 1] [0, 5] e (A_2 (s2c some)) := fun x y => Eq.trans (b := (A_2 (s2c fun r => some (e r))).G x y) (by kernel_rfl) (by simp only [A_2, s2c, bif_bind, sum_bind, oa, os, on, ofs])
end
mutual
def s0 : Nat → S0 R
  | 0, _, _, _, _ => none
  | k + 1, x0, x1, x2, x3 => s0c (s1 k) some x0 x1 x2 x3
def s1 : Nat → S1 R
  | 0, _, _, _ => none
  | k + 1, x0, x1, x2 => s1c (s2 k) some x0 x1 x2
def s2 : Nat → S2 R
  | 0, _, _ => none
  | k + 1, x0, x1 => s2c  some x0 x1
end
def f (k : Nat) (a0 : Int) : Option R := c (transomref02_Class.f k) (transomref02_fraction.f k) (transomref02_exponent.f k) (s0 k) some a0
noncomputable abbrev E (k : Nat) : FEnv := env (transomref02_Class.f k) (transomref02_fraction.f k) (transomref02_exponent.f k) (s0 k) (s1 k) (s2 k)
theorem hE (k : Nat) : EnvOK (E k).toEnv := ctsOK (Lc (transomref02_Class.ok k) (Lc (transomref02_fraction.ok k) (Lc (transomref02_exponent.ok k) L0)))
theorem segs_ok : ∀ k, ∀ s ∈ [sg0 (s0 k), sg1 (s1 k), sg2 (s2 k)], SegB prog f93 0 s
  | 0 => (Lc (sg_none (Lc (fun _ _ => rfl) L0)) (Lc (sg_none (Lc (fun _ _ => rfl) L0)) (Lc (sg_none (Lc (fun _ _ => rfl) L0)) L0)))
  | k + 1 => (Lc (sg_ok (hE k) (segs_ok k) (Lc s0_ev L0)) (Lc (sg_ok (hE k) (segs_ok k) (Lc s1_ev L0)) (Lc (sg_ok (hE k) (segs_ok k) (Lc s2_ev L0)) L0)))
theorem ok (k : Nat) : CtOK prog 93 (ct (f k)) := fn_ok func93 rfl (by decide) (hE k) (segs_ok k) (Lc ev L0)
end transomref02_ToInt
namespace transomref07_fromReal
abbrev R : Type := Int × Int × Int × ByteArray × Int
def e (r : R) : Res := ⟨.tup [(.agg [(.d (.int .i64) r.1), (.d (.int .i64) r.2.1), (.d (.int .u64) r.2.2.1), (.d .str r.2.2.2.1)]), (.one (.d (.int .i64) r.2.2.2.2))], []⟩
abbrev T (δ : Type) : Type := Int → Int → Option δ
abbrev A {δ : Type} (g : T δ) : Arm δ := ⟨[.d (.int .u64), .d (.int .i64)], [], fun x y => g x.1 x.2.1⟩
abbrev G : Type := T R
def ct (g : G) : Ct := mkCt 0 [] [A g] e
section
variable {β : Type} (g90 : transomref07_truth.G) (g91 : transomref05_Eight.G) (g93 : transomref02_ToInt.G)
noncomputable abbrev env : FEnv := mkEnv prog f67 [(90, transomref07_truth.ct g90), (91, transomref05_Eight.ct g91), (93, transomref02_ToInt.ct g93)] 0 [] []
def c (ret : R → Option β) (a0 : Int) (a1 : Int) : Option β := (bif (a1 == (4 : Int)) then ((g91 a0).bind fun r0 => (ret (a1, (0 : Int), (0 : Int), r0, (0 : Int)))) else ((g93 a0).bind fun r1 => (bif (!r1.2) then (ret ((0 : Int), (0 : Int), (0 : Int), (ByteArray.mk (List.toArray [])), (6 : Int))) else (bif (a1 == (1 : Int)) then ((g90 r1.1).bind fun r2 => (ret (r2.1, r2.2.1, r2.2.2.1, r2.2.2.2.1, r2.2.2.2.2))) else (ret (a1, r1.1, (0 : Int), (ByteArray.mk (List.toArray [])), (0 : Int)))))))
variable {g90} {g91} {g93}
theorem ev : EvA (env g90 g91 g93) [] [0, 1] e (A (c g90 g91 g93 some)) := fun x y => Eq.trans (b := (A (c g90 g91 g93 fun r => some (e r))).G x y) (by kernel_rfl) (by simp only [A, c, bif_bind, sum_bind, oa, os, on, ofs])
end
def f (k : Nat) (a0 : Int) (a1 : Int) : Option R := c (transomref07_truth.f k) (transomref05_Eight.f k) (transomref02_ToInt.f k) some a0 a1
noncomputable abbrev E (k : Nat) : FEnv := env (transomref07_truth.f k) (transomref05_Eight.f k) (transomref02_ToInt.f k) 
theorem hE (k : Nat) : EnvOK (E k).toEnv := ctsOK (Lc (transomref07_truth.ok k) (Lc (transomref05_Eight.ok k) (Lc (transomref02_ToInt.ok k) L0)))
theorem ok (k : Nat) : CtOK prog 67 (ct (f k)) := fn_ok func67 rfl (by decide) (hE k) L0 (Lc ev L0)
end transomref07_fromReal
namespace transomref05_Number
def e (r : Int) : Res := ⟨.v (.one (.d (.int .u64) r)), []⟩
abbrev T (δ : Type) : Type := ByteArray → Option δ
abbrev A {δ : Type} (g : T δ) : Arm δ := ⟨[.d .str], [], fun x y => g x.1⟩
abbrev G : Type := T Int
def ct (g : G) : Ct := mkCt 0 [] [A g] e
abbrev S0 (δ : Type) : Type := ByteArray → Int → Int → Option δ
abbrev A_0 {δ : Type} (s : S0 δ) : Arm δ := ⟨[.d .str, .d (.int .u64), .d (.int .i64)], [], fun x y => s x.1 x.2.1 x.2.2.1⟩
def sg0 (s : S0 Int) : Seg := mkSg [4, 1, 0, 1, 1] [] [0, 3, 4] [A_0 s] e
section
variable {β : Type} (s0 : S0 Int)
noncomputable abbrev env : FEnv := mkEnv prog f94 [] 0 [] [sg0 s0]
def c (ret : Int → Option β) (a0 : ByteArray) : Option β := ((s0 a0 (0 : Int) (0 : Int)).bind ret)
def s0c (ret : Int → Option β) (x0 : ByteArray) (x1 : Int) (x2 : Int) : Option β := (bif (decide (x2 < (8 : Int))) then (bif ((decide ((0 : Int) ≤ x2)) && (decide (x2 < (x0.size : Int)))) then ((s0 x0 (IntKind.wrap .u64 ((BitVec.toNat ((BitVec.ofInt (64 : Nat) (IntKind.wrap .u64 (x1 * (256 : Int)))) ||| (BitVec.ofInt (64 : Nat) (IntKind.wrap .u64 (bt x0 x2))))) : Int)) (IntKind.wrap .i64 (x2 + (1 : Int)))).bind ret) else none) else (ret (x1)))
variable {s0}
theorem ev : EvA (env s0) [] [0] e (A (c s0 some)) := fun x y => Eq.trans (b := (A (c s0 fun r => some (e r))).G x y) (by kernel_rfl) (by simp only [A, c, bif_bind, sum_bind, oa, os, on, ofs])
theorem s0_ev : EvA (env s0) [4, 1, 0, 1, 1] [0, 3, 4] e (A_0 (s0c s0 some)) := fun x y => Eq.trans (b := (A_0 (s0c s0 fun r => some (e r))).G x y) (by kernel_rfl) (by simp only [A_0, s0c, bif_bind, sum_bind, oa, os, on, ofs])
end
def s0 : Nat → S0 Int
  | 0, _, _, _ => none
  | k + 1, x0, x1, x2 => s0c (s0 k) some x0 x1 x2
def f (k : Nat) (a0 : ByteArray) : Option Int := c (s0 k) some a0
noncomputable abbrev E (k : Nat) : FEnv := env  (s0 k)
theorem hE (k : Nat) : EnvOK (E k).toEnv := ctsOK L0
theorem segs_ok : ∀ k, ∀ s ∈ [sg0 (s0 k)], SegB prog f94 0 s
  | 0 => (Lc (sg_none (Lc (fun _ _ => rfl) L0)) L0)
  | k + 1 => (Lc (sg_ok (hE k) (segs_ok k) (Lc s0_ev L0)) L0)
theorem ok (k : Nat) : CtOK prog 94 (ct (f k)) := fn_ok func94 rfl (by decide) (hE k) (segs_ok k) (Lc ev L0)
end transomref05_Number
namespace transomref07_fromBytes
abbrev R : Type := Int × Int × Int × ByteArray × Int
def e (r : R) : Res := ⟨.tup [(.agg [(.d (.int .i64) r.1), (.d (.int .i64) r.2.1), (.d (.int .u64) r.2.2.1), (.d .str r.2.2.2.1)]), (.one (.d (.int .i64) r.2.2.2.2))], []⟩
abbrev T (δ : Type) : Type := ByteArray → Int → Option δ
abbrev A {δ : Type} (g : T δ) : Arm δ := ⟨[.d .str, .d (.int .i64)], [], fun x y => g x.1 x.2.1⟩
abbrev G : Type := T R
def ct (g : G) : Ct := mkCt 0 [] [A g] e
section
variable {β : Type} (g87 : transomref02_Canon.G) (g88 : transomref01_Valid.G) (g94 : transomref05_Number.G)
noncomputable abbrev env : FEnv := mkEnv prog f68 [(87, transomref02_Canon.ct g87), (88, transomref01_Valid.ct g88), (94, transomref05_Number.ct g94)] 0 [] []
def c (ret : R → Option β) (a0 : ByteArray) (a1 : Int) : Option β := (bif (a1 == (5 : Int)) then ((g88 a0).bind fun r0 => (bif (!r0) then (ret ((0 : Int), (0 : Int), (0 : Int), (ByteArray.mk (List.toArray [])), (7 : Int))) else (ret (a1, (0 : Int), (0 : Int), a0, (0 : Int))))) else (bif ((a0.size : Int) != (8 : Int)) then (ret ((0 : Int), (0 : Int), (0 : Int), (ByteArray.mk (List.toArray [])), (6 : Int))) else (bif (a1 == (3 : Int)) then ((g94 a0).bind fun r1 => ((g87 r1).bind fun r2 => (ret (a1, (0 : Int), r2, (ByteArray.mk (List.toArray [])), (0 : Int))))) else ((g94 a0).bind fun r3 => (ret (a1, (IntKind.wrap .i64 r3), (0 : Int), (ByteArray.mk (List.toArray [])), (0 : Int)))))))
variable {g87} {g88} {g94}
theorem ev : EvA (env g87 g88 g94) [] [0, 1] e (A (c g87 g88 g94 some)) := fun x y => Eq.trans (b := (A (c g87 g88 g94 fun r => some (e r))).G x y) (by kernel_rfl) (by simp only [A, c, bif_bind, sum_bind, oa, os, on, ofs])
end
def f (k : Nat) (a0 : ByteArray) (a1 : Int) : Option R := c (transomref02_Canon.f k) (transomref01_Valid.f k) (transomref05_Number.f k) some a0 a1
noncomputable abbrev E (k : Nat) : FEnv := env (transomref02_Canon.f k) (transomref01_Valid.f k) (transomref05_Number.f k) 
theorem hE (k : Nat) : EnvOK (E k).toEnv := ctsOK (Lc (transomref02_Canon.ok k) (Lc (transomref01_Valid.ok k) (Lc (transomref05_Number.ok k) L0)))
theorem ok (k : Nat) : CtOK prog 68 (ct (f k)) := fn_ok func68 rfl (by decide) (hE k) L0 (Lc ev L0)
end transomref07_fromBytes
namespace transomref07_Number
abbrev R : Type := Int × Int
def e (r : R) : Res := ⟨.tup [(.one (.d (.int .i64) r.1)), (.one (.d (.int .i64) r.2))], []⟩
abbrev T (δ : Type) : Type := ByteArray → Option δ
abbrev A {δ : Type} (g : T δ) : Arm δ := ⟨[.d .str], [], fun x y => g x.1⟩
abbrev G : Type := T R
def ct (g : G) : Ct := mkCt 0 [] [A g] e
abbrev S0 (δ : Type) : Type := ByteArray → Int → Int → Bool → Option δ
abbrev A_0 {δ : Type} (s : S0 δ) : Arm δ := ⟨[.d .str, .d (.int .i64), .d (.int .i64), .d .bool], [], fun x y => s x.1 x.2.1 x.2.2.1 x.2.2.2.1⟩
abbrev S1 (δ : Type) : Type := ByteArray → Int → Int → Option δ
abbrev A_1 {δ : Type} (s : S1 δ) : Arm δ := ⟨[.d .str, .d (.int .i64), .d (.int .i64)], [], fun x y => s x.1 x.2.1 x.2.2.1⟩
abbrev S2 (δ : Type) : Type := ByteArray → Int → Int → Int → Option δ
abbrev A_2 {δ : Type} (s : S2 δ) : Arm δ := ⟨[.d .str, .d (.int .i64), .d (.int .i64), .d (.int .i64)], [], fun x y => s x.1 x.2.1 x.2.2.1 x.2.2.2.1⟩
abbrev S3 (δ : Type) : Type := ByteArray → Int → Int → Int → Bool → Option δ
abbrev A_3 {δ : Type} (s : S3 δ) : Arm δ := ⟨[.d .str, .d (.int .i64), .d (.int .i64), .d (.int .i64), .d .bool], [], fun x y => s x.1 x.2.1 x.2.2.1 x.2.2.2.1 x.2.2.2.2.1⟩
abbrev S4 (δ : Type) : Type := ByteArray → Int → Int → Int → Option δ
abbrev A_4 {δ : Type} (s : S4 δ) : Arm δ := ⟨[.d .str, .d (.int .i64), .d (.int .i64), .d (.int .i64)], [], fun x y => s x.1 x.2.1 x.2.2.1 x.2.2.2.1⟩
abbrev S5 (δ : Type) : Type := ByteArray → Int → Int → Int → Option δ
abbrev A_5 {δ : Type} (s : S5 δ) : Arm δ := ⟨[.d .str, .d (.int .i64), .d (.int .i64), .d (.int .i64)], [], fun x y => s x.1 x.2.1 x.2.2.1 x.2.2.2.1⟩
def sg0 (s : S0 R) : Seg := mkSg [1, 0, 1, 1, 1] [] [0, 4, 5, 14] [A_0 s] e
def sg1 (s : S1 R) : Seg := mkSg [1, 1, 1, 1] [] [0, 4, 5] [A_1 s] e
def sg2 (s : S2 R) : Seg := mkSg [4, 1, 0, 1, 1, 1, 1, 1] [] [0, 4, 5, 6] [A_2 s] e
def sg3 (s : S3 R) : Seg := mkSg [1, 0, 4, 0, 1, 5, 4, 1, 0, 1, 1, 1, 1, 1] [] [0, 4, 5, 6, 34] [A_3 s] e
def sg4 (s : S4 R) : Seg := mkSg [1, 4, 0, 1, 5, 4, 1, 0, 1, 1, 1, 1, 1] [] [0, 4, 5, 6] [A_4 s] e
def sg5 (s : S5 R) : Seg := mkSg [1, 1, 5, 4, 1, 0, 1, 1, 1, 1, 1] [] [0, 4, 5, 6] [A_5 s] e
section
variable {β : Type} (g92 : transomref07_Digits.G) (s0 : S0 R) (s1 : S1 R) (s2 : S2 R) (s3 : S3 R) (s4 : S4 R) (s5 : S5 R)
noncomputable abbrev env : FEnv := mkEnv prog f95 [(92, transomref07_Digits.ct g92)] 0 [] [sg0 s0, sg1 s1, sg2 s2, sg3 s3, sg4 s4, sg5 s5]
def c (ret : R → Option β) (a0 : ByteArray) : Option β := (bif (decide ((a0.size : Int) > (0 : Int))) then (bif (true && (decide ((0 : Int) < (a0.size : Int)))) then ((s0 a0 (0 : Int) (0 : Int) ((bt a0 (0 : Int)) == (45 : Int))).bind ret) else none) else ((s0 a0 (0 : Int) (0 : Int) false).bind ret))
def s0c (ret : R → Option β) (x0 : ByteArray) (x1 : Int) (x2 : Int) (x3 : Bool) : Option β := (bif x3 then ((s1 x0 x1 (1 : Int)).bind ret) else ((s1 x0 x1 x2).bind ret))
def s1c (ret : R → Option β) (x0 : ByteArray) (x1 : Int) (x2 : Int) : Option β := (bif (decide ((x0.size : Int) > (20 : Int))) then (ret ((0 : Int), (7 : Int))) else ((s2 x0 x1 x2 x2).bind ret))
def s2c (ret : R → Option β) (x0 : ByteArray) (x1 : Int) (x2 : Int) (x3 : Int) : Option β := (bif (decide (x3 < (x0.size : Int))) then (bif ((decide ((0 : Int) ≤ x3)) && (decide (x3 < (x0.size : Int)))) then (bif (decide ((bt x0 x3) < (48 : Int))) then ((s3 x0 x1 x2 x3 true).bind ret) else (bif ((decide ((0 : Int) ≤ x3)) && (decide (x3 < (x0.size : Int)))) then ((s3 x0 x1 x2 x3 (decide ((bt x0 x3) > (57 : Int)))).bind ret) else none)) else none) else (bif (x2 == (1 : Int)) then ((g92 (IntKind.wrap .i64 ((0 : Int) - x1))).bind fun r0 => (bif (!(r0.toList == x0.toList)) then (ret ((0 : Int), (7 : Int))) else (ret ((IntKind.wrap .i64 ((0 : Int) - x1)), (0 : Int))))) else ((g92 x1).bind fun r1 => (bif (!(r1.toList == x0.toList)) then (ret ((0 : Int), (7 : Int))) else (ret (x1, (0 : Int)))))))
def s3c (ret : R → Option β) (x0 : ByteArray) (x1 : Int) (x2 : Int) (x3 : Int) (x4 : Bool) : Option β := (bif x4 then (ret ((0 : Int), (7 : Int))) else ((s4 x0 x1 x2 x3).bind ret))
def s4c (ret : R → Option β) (x0 : ByteArray) (x1 : Int) (x2 : Int) (x3 : Int) : Option β := (bif ((decide ((0 : Int) ≤ x3)) && (decide (x3 < (x0.size : Int)))) then ((s5 x0 (IntKind.wrap .i64 ((IntKind.wrap .i64 ((IntKind.wrap .i64 (x1 * (10 : Int))) + (IntKind.wrap .i64 (bt x0 x3)))) - (48 : Int))) x2 x3).bind ret) else none)
def s5c (ret : R → Option β) (x0 : ByteArray) (x1 : Int) (x2 : Int) (x3 : Int) : Option β := ((s2 x0 x1 x2 (IntKind.wrap .i64 (x3 + (1 : Int)))).bind ret)
variable {g92} {s0} {s1} {s2} {s3} {s4} {s5}
theorem ev : EvA (env g92 s0 s1 s2 s3 s4 s5) [] [0] e (A (c s0 some)) := fun x y => Eq.trans (b := (A (c s0 fun r => some (e r))).G x y) (by kernel_rfl) (by simp only [A, c, bif_bind, sum_bind, oa, os, on, ofs])
theorem s0_ev : EvA (env g92 s0 s1 s2 s3 s4 s5) [1, 0, 1, 1, 1] [0, 4, 5, 14] e (A_0 (s0c s1 some)) := fun x y => Eq.trans (b := (A_0 (s0c s1 fun r => some (e r))).G x y) (by kernel_rfl) (by simp only [A_0, s0c, bif_bind, sum_bind, oa, os, on, ofs])
theorem s1_ev : EvA (env g92 s0 s1 s2 s3 s4 s5) [1, 1, 1, 1] [0, 4, 5] e (A_1 (s1c s2 some)) := fun x y => Eq.trans (b := (A_1 (s1c s2 fun r => some (e r))).G x y) (by kernel_rfl) (by simp only [A_1, s1c, bif_bind, sum_bind, oa, os, on, ofs])
theorem s2_ev : EvA (env g92 s0 s1 s2 s3 s4 s5) [4, 1, 0, 1, 1, 1, 1, 1] [0, 4, 5, 6] e (A_2 (s2c g92 s3 some)) := fun x y => Eq.trans (b := (A_2 (s2c g92 s3 fun r => some (e r))).G x y) (by kernel_rfl) (by simp only [A_2, s2c, bif_bind, sum_bind, oa, os, on, ofs])
theorem s3_ev : EvA (env g92 s0 s1 s2 s3 s4 s5) [1, 0, 4, 0, 1, 5, 4, 1, 0, 1, 1, 1, 1, 1] [0, 4, 5, 6, 34] e (A_3 (s3c s4 some)) := fun x y => Eq.trans (b := (A_3 (s3c s4 fun r => some (e r))).G x y) (by kernel_rfl) (by simp only [A_3, s3c, bif_bind, sum_bind, oa, os, on, ofs])
theorem s4_ev : EvA (env g92 s0 s1 s2 s3 s4 s5) [1, 4, 0, 1, 5, 4, 1, 0, 1, 1, 1, 1, 1] [0, 4, 5, 6] e (A_4 (s4c s5 some)) := fun x y => Eq.trans (b := (A_4 (s4c s5 fun r => some (e r))).G x y) (by kernel_rfl) (by simp only [A_4, s4c, bif_bind, sum_bind, oa, os, on, ofs])
theorem s5_ev : EvA (env g92 s0 s1 s2 s3 s4 s5) [1, 1, 5, 4, 1, 0, 1, 1, 1, 1, 1] [0, 4, 5, 6] e (A_5 (s5c s2 some)) := fun x y => Eq.trans (b := (A_5 (s5c s2 fun r => some (e r))).G x y) (by kernel_rfl) (by simp only [A_5, s5c, bif_bind, sum_bind, oa, os, on, ofs])
end
mutual
def s0 : Nat → S0 R
  | 0, _, _, _, _ => none
  | k + 1, x0, x1, x2, x3 => s0c (s1 k) some x0 x1 x2 x3
def s1 : Nat → S1 R
  | 0, _, _, _ => none
  | k + 1, x0, x1, x2 => s1c (s2 k) some x0 x1 x2
def s2 : Nat → S2 R
  | 0, _, _, _, _ => none
  | k + 1, x0, x1, x2, x3 => s2c (transomref07_Digits.f k) (s3 k) some x0 x1 x2 x3
def s3 : Nat → S3 R
  | 0, _, _, _, _, _ => none
  | k + 1, x0, x1, x2, x3, x4 => s3c (s4 k) some x0 x1 x2 x3 x4
def s4 : Nat → S4 R
  | 0, _, _, _, _ => none
  | k + 1, x0, x1, x2, x3 => s4c (s5 k) some x0 x1 x2 x3
def s5 : Nat → S5 R
  | 0, _, _, _, _ => none
  | k + 1, x0, x1, x2, x3 => s5c (s2 k) some x0 x1 x2 x3
end
def f (k : Nat) (a0 : ByteArray) : Option R := c (s0 k) some a0
noncomputable abbrev E (k : Nat) : FEnv := env (transomref07_Digits.f k) (s0 k) (s1 k) (s2 k) (s3 k) (s4 k) (s5 k)
theorem hE (k : Nat) : EnvOK (E k).toEnv := ctsOK (Lc (transomref07_Digits.ok k) L0)
theorem segs_ok : ∀ k, ∀ s ∈ [sg0 (s0 k), sg1 (s1 k), sg2 (s2 k), sg3 (s3 k), sg4 (s4 k), sg5 (s5 k)], SegB prog f95 0 s
  | 0 => (Lc (sg_none (Lc (fun _ _ => rfl) L0)) (Lc (sg_none (Lc (fun _ _ => rfl) L0)) (Lc (sg_none (Lc (fun _ _ => rfl) L0)) (Lc (sg_none (Lc (fun _ _ => rfl) L0)) (Lc (sg_none (Lc (fun _ _ => rfl) L0)) (Lc (sg_none (Lc (fun _ _ => rfl) L0)) L0))))))
  | k + 1 => (Lc (sg_ok (hE k) (segs_ok k) (Lc s0_ev L0)) (Lc (sg_ok (hE k) (segs_ok k) (Lc s1_ev L0)) (Lc (sg_ok (hE k) (segs_ok k) (Lc s2_ev L0)) (Lc (sg_ok (hE k) (segs_ok k) (Lc s3_ev L0)) (Lc (sg_ok (hE k) (segs_ok k) (Lc s4_ev L0)) (Lc (sg_ok (hE k) (segs_ok k) (Lc s5_ev L0)) L0))))))
theorem ok (k : Nat) : CtOK prog 95 (ct (f k)) := fn_ok func95 rfl (by decide) (hE k) (segs_ok k) (Lc ev L0)
end transomref07_Number
namespace transomref07_fromText
abbrev R : Type := Int × Int × Int × ByteArray × Int
def e (r : R) : Res := ⟨.tup [(.agg [(.d (.int .i64) r.1), (.d (.int .i64) r.2.1), (.d (.int .u64) r.2.2.1), (.d .str r.2.2.2.1)]), (.one (.d (.int .i64) r.2.2.2.2))], []⟩
abbrev T (δ : Type) : Type := ByteArray → Int → Option δ
abbrev A {δ : Type} (g : T δ) : Arm δ := ⟨[.d .str, .d (.int .i64)], [], fun x y => g x.1 x.2.1⟩
abbrev G : Type := T R
def ct (g : G) : Ct := mkCt 0 [] [A g] e
abbrev S0 (δ : Type) : Type := ByteArray → Int → Bool → Int → Int → Int → ByteArray → Option δ
abbrev A_0 {δ : Type} (s : S0 δ) : Arm δ := ⟨[.d .str, .d (.int .i64), .k (.ptr 0 0), .d .bool], [.box [.g T_api_Value]], fun x y => s x.1 x.2.1 x.2.2.2.1 y.1.1.1 y.1.1.2.1 y.1.1.2.2.1 y.1.1.2.2.2.1⟩
abbrev S1 (δ : Type) : Type := ByteArray → Int → Bool → Int → Int → Int → ByteArray → Option δ
abbrev A_1 {δ : Type} (s : S1 δ) : Arm δ := ⟨[.d .str, .d (.int .i64), .k (.ptr 0 0), .d .bool], [.box [.g T_api_Value]], fun x y => s x.1 x.2.1 x.2.2.2.1 y.1.1.1 y.1.1.2.1 y.1.1.2.2.1 y.1.1.2.2.2.1⟩
abbrev S2 (δ : Type) : Type := ByteArray → Int → Int → Int → Int → ByteArray → Option δ
abbrev A_2 {δ : Type} (s : S2 δ) : Arm δ := ⟨[.d .str, .d (.int .i64), .k (.ptr 0 0)], [.box [.g T_api_Value]], fun x y => s x.1 x.2.1 y.1.1.1 y.1.1.2.1 y.1.1.2.2.1 y.1.1.2.2.2.1⟩
def sg0 (s : S0 R) : Seg := mkSg [1, 3, 1, 4, 0, 1] [] [0, 1, 4, 14] [A_0 s] e
def sg1 (s : S1 R) : Seg := mkSg [1, 3, 1, 3, 1, 4, 0, 1] [] [0, 1, 4, 23] [A_1 s] e
def sg2 (s : S2 R) : Seg := mkSg [1, 1] [] [0, 1, 4] [A_2 s] e
section
variable {β : Type} (g95 : transomref07_Number.G) (s0 : S0 R) (s1 : S1 R) (s2 : S2 R)
noncomputable abbrev env : FEnv := mkEnv prog f69 [(95, transomref07_Number.ct g95)] 0 [] [sg0 s0, sg1 s1, sg2 s2]
def c (ret : R → Option β) (a0 : ByteArray) (a1 : Int) : Option β := (bif (a1 == (4 : Int)) then (ret (a1, (0 : Int), (0 : Int), a0, (0 : Int))) else (bif (a1 == (1 : Int)) then ((s0 a0 a1 (a0.toList == (ByteArray.toList (ByteArray.mk (List.toArray [(116 : UInt8), (114 : UInt8), (117 : UInt8), (101 : UInt8)])))) (0 : Int) (0 : Int) (0 : Int) (ByteArray.mk (List.toArray []))).bind ret) else ((s0 a0 a1 false (0 : Int) (0 : Int) (0 : Int) (ByteArray.mk (List.toArray []))).bind ret)))
def s0c (ret : R → Option β) (x0 : ByteArray) (x1 : Int) (x2 : Bool) (x3 : Int) (x4 : Int) (x5 : Int) (x6 : ByteArray) : Option β := (bif x2 then (ret (x1, (1 : Int), (0 : Int), (ByteArray.mk (List.toArray [])), (0 : Int))) else (bif (x1 == (1 : Int)) then ((s1 x0 x1 (x0.toList == (ByteArray.toList (ByteArray.mk (List.toArray [(102 : UInt8), (97 : UInt8), (108 : UInt8), (115 : UInt8), (101 : UInt8)])))) x3 x4 x5 x6).bind ret) else ((s1 x0 x1 false x3 x4 x5 x6).bind ret)))
def s1c (ret : R → Option β) (x0 : ByteArray) (x1 : Int) (x2 : Bool) (x3 : Int) (x4 : Int) (x5 : Int) (x6 : ByteArray) : Option β := (bif x2 then (ret (x1, (0 : Int), (0 : Int), (ByteArray.mk (List.toArray [])), (0 : Int))) else (bif (x1 == (1 : Int)) then (ret ((0 : Int), (0 : Int), (0 : Int), (ByteArray.mk (List.toArray [])), (7 : Int))) else ((s2 x0 x1 x3 x4 x5 x6).bind ret)))
def s2c (ret : R → Option β) (x0 : ByteArray) (x1 : Int) (x2 : Int) (x3 : Int) (x4 : Int) (x5 : ByteArray) : Option β := ((g95 x0).bind fun r0 => (bif (r0.2 != (0 : Int)) then (ret ((0 : Int), (0 : Int), (0 : Int), (ByteArray.mk (List.toArray [])), r0.2)) else (ret (x1, r0.1, (0 : Int), (ByteArray.mk (List.toArray [])), (0 : Int)))))
variable {g95} {s0} {s1} {s2}
theorem ev : EvA (env g95 s0 s1 s2) [] [0, 1] e (A (c s0 some)) := fun x y => Eq.trans (b := (A (c s0 fun r => some (e r))).G x y) (by kernel_rfl) (by simp only [A, c, bif_bind, sum_bind, oa, os, on, ofs])
theorem s0_ev : EvA (env g95 s0 s1 s2) [1, 3, 1, 4, 0, 1] [0, 1, 4, 14] e (A_0 (s0c s1 some)) := fun x y => Eq.trans (b := (A_0 (s0c s1 fun r => some (e r))).G x y) (by kernel_rfl) (by simp only [A_0, s0c, bif_bind, sum_bind, oa, os, on, ofs])
theorem s1_ev : EvA (env g95 s0 s1 s2) [1, 3, 1, 3, 1, 4, 0, 1] [0, 1, 4, 23] e (A_1 (s1c s2 some)) := fun x y => Eq.trans (b := (A_1 (s1c s2 fun r => some (e r))).G x y) (by kernel_rfl) (by simp only [A_1, s1c, bif_bind, sum_bind, oa, os, on, ofs])
theorem s2_ev : EvA (env g95 s0 s1 s2) [1, 1] [0, 1, 4] e (A_2 (s2c g95 some)) := fun x y => Eq.trans (b := (A_2 (s2c g95 fun r => some (e r))).G x y) (by kernel_rfl) (by simp only [A_2, s2c, bif_bind, sum_bind, oa, os, on, ofs])
end
mutual
def s0 : Nat → S0 R
  | 0, _, _, _, _, _, _, _ => none
  | k + 1, x0, x1, x2, x3, x4, x5, x6 => s0c (s1 k) some x0 x1 x2 x3 x4 x5 x6
def s1 : Nat → S1 R
  | 0, _, _, _, _, _, _, _ => none
  | k + 1, x0, x1, x2, x3, x4, x5, x6 => s1c (s2 k) some x0 x1 x2 x3 x4 x5 x6
def s2 : Nat → S2 R
  | 0, _, _, _, _, _, _ => none
  | k + 1, x0, x1, x2, x3, x4, x5 => s2c (transomref07_Number.f k) some x0 x1 x2 x3 x4 x5
end
def f (k : Nat) (a0 : ByteArray) (a1 : Int) : Option R := c (s0 k) some a0 a1
noncomputable abbrev E (k : Nat) : FEnv := env (transomref07_Number.f k) (s0 k) (s1 k) (s2 k)
theorem hE (k : Nat) : EnvOK (E k).toEnv := ctsOK (Lc (transomref07_Number.ok k) L0)
theorem segs_ok : ∀ k, ∀ s ∈ [sg0 (s0 k), sg1 (s1 k), sg2 (s2 k)], SegB prog f69 0 s
  | 0 => (Lc (sg_none (Lc (fun _ _ => rfl) L0)) (Lc (sg_none (Lc (fun _ _ => rfl) L0)) (Lc (sg_none (Lc (fun _ _ => rfl) L0)) L0)))
  | k + 1 => (Lc (sg_ok (hE k) (segs_ok k) (Lc s0_ev L0)) (Lc (sg_ok (hE k) (segs_ok k) (Lc s1_ev L0)) (Lc (sg_ok (hE k) (segs_ok k) (Lc s2_ev L0)) L0)))
theorem ok (k : Nat) : CtOK prog 69 (ct (f k)) := fn_ok func69 rfl (by decide) (hE k) (segs_ok k) (Lc ev L0)
end transomref07_fromText
end Go.Proofs.YtijjlpgcpdapnaaGreatDoor.Aev
