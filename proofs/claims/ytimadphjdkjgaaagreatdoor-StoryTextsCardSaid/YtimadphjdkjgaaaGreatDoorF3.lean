import Derived.Test.YtimadphjdkjgaaaGreatDoorTys
import Derived.Test.YtimadphjdkjgaaaGreatDoorProg
import Derived.Laws.Externs
import Derived.Lib.Bytealg
import Derived.Test.YtimadphjdkjgaaaGreatDoorF0
import Derived.Test.YtimadphjdkjgaaaGreatDoorF2
/- By a program of this session (AEV): functions of the program as plain functions, and that the machine does what they say. -/
namespace Go.Proofs.YtimadphjdkjgaaaGreatDoor.Aev
set_option linter.unusedVariables false
set_option linter.unusedSimpArgs false
set_option maxRecDepth 100000
set_option maxHeartbeats 4000000
open Go Go.Proofs.Tryz
namespace words_Split
abbrev R : Type := (List ByteArray) × Int
def e (r : R) : Res := ⟨.tup [(.one (.d (.sl .str) r.1)), (.one (.d (.int .i64) r.2))], []⟩
abbrev T (δ : Type) : Type := ByteArray → Option δ
abbrev A {δ : Type} (g : T δ) : Arm δ := ⟨[.d .str], [], fun x y => g x.1⟩
abbrev G : Type := T R
def ct (g : G) : Ct := mkCt 0 [] [A g] e
abbrev S0 (δ : Type) : Type := ByteArray → (List Int) → Int → Int → Option δ
abbrev A_0 {δ : Type} (s : S0 δ) : Arm δ := ⟨[.d .str, .d (.sl (.int .u8)), .d (.int .i64), .d (.int .i64)], [], fun x y => s x.1 x.2.1 x.2.2.1 x.2.2.2.1⟩
abbrev S1 (δ : Type) : Type := ByteArray → (List Int) → Int → Int → Bool → Option δ
abbrev A_1 {δ : Type} (s : S1 δ) : Arm δ := ⟨[.d .str, .d (.sl (.int .u8)), .d (.int .i64), .d (.int .i64), .d .bool], [], fun x y => s x.1 x.2.1 x.2.2.1 x.2.2.2.1 x.2.2.2.2.1⟩
abbrev S2 (δ : Type) : Type := ByteArray → (List Int) → Int → Int → Option δ
abbrev A_2 {δ : Type} (s : S2 δ) : Arm δ := ⟨[.d .str, .d (.sl (.int .u8)), .d (.int .i64), .d (.int .i64)], [], fun x y => s x.1 x.2.1 x.2.2.1 x.2.2.2.1⟩
abbrev S3 (δ : Type) : Type := ByteArray → Int → Int → (List ByteArray) → Option δ
abbrev A_3 {δ : Type} (s : S3 δ) : Arm δ := ⟨[.d .str, .k (.own 0), .d (.int .i64), .d (.int .i64)], [.own .str false], fun x y => s x.1 x.2.2.1 x.2.2.2.1 y.1⟩
abbrev S4 (δ : Type) : Type := ByteArray → Int → Int → (List ByteArray) → Option δ
abbrev A_4 {δ : Type} (s : S4 δ) : Arm δ := ⟨[.d .str, .k (.own 0), .d (.int .i64), .d (.int .i64)], [.own .str false], fun x y => s x.1 x.2.2.1 x.2.2.2.1 y.1⟩
abbrev S5 (δ : Type) : Type := ByteArray → Int → Int → (List ByteArray) → Option δ
abbrev A_5 {δ : Type} (s : S5 δ) : Arm δ := ⟨[.d .str, .k (.own 0), .d (.int .i64), .d (.int .i64)], [.own .str false], fun x y => s x.1 x.2.2.1 x.2.2.2.1 y.1⟩
def sg0 (s : S0 R) : Seg := mkSg [4, 1, 0, 1] [] [0, 10, 11, 12] [A_0 s] e
def sg1 (s : S1 R) : Seg := mkSg [1, 1, 4, 0, 1, 1, 5, 4, 1, 0, 1] [] [0, 10, 11, 12, 21] [A_1 s] e
def sg2 (s : S2 R) : Seg := mkSg [1, 1, 1, 5, 4, 1, 0, 1] [] [0, 10, 11, 12] [A_2 s] e
def sg3 (s : S3 R) : Seg := mkSg [4, 1, 0, 1, 1, 1, 1] [.own 6 .str] [0, 6, 7, 8] [A_3 s] e
def sg4 (s : S4 R) : Seg := mkSg [1, 2, 1, 4, 0, 4, 1, 5, 4, 1, 0, 1, 1, 1, 1] [.own 6 .str] [0, 6, 7, 8] [A_4 s] e
def sg5 (s : S5 R) : Seg := mkSg [1, 4, 1, 5, 4, 1, 0, 1, 1, 1, 1] [] [0, 6, 7, 8] [A_5 s] e
section
variable {β : Type} (g40 : words_quoted.G) (s0 : S0 R) (s1 : S1 R) (s2 : S2 R) (s3 : S3 R) (s4 : S4 R) (s5 : S5 R)
noncomputable abbrev env : FEnv := mkEnv prog f17 [(40, words_quoted.ct g40)] 0 [] [sg0 s0, sg1 s1, sg2 s2, sg3 s3, sg4 s4, sg5 s5]
def c (ret : R → Option β) (a0 : ByteArray) : Option β := ((s0 a0 (List.map (fun b => ((UInt8.toNat b) : Int)) (Array.toList (ByteArray.data a0))) ((List.length (List.map (fun b => ((UInt8.toNat b) : Int)) (Array.toList (ByteArray.data a0)))) : Int) (0 : Int)).bind ret)
def s0c (ret : R → Option β) (x0 : ByteArray) (x1 : List Int) (x2 x3 : Int) : Option β := (bif (decide (x3 < x2)) then (bif ((decide ((0 : Int) ≤ x3)) && (decide (x3 < (x1.length : Int)))) then (bif (decide ((elem (Ty.int IntKind.u8) x1 x3) < (32 : Int))) then ((s1 x0 x1 x2 x3 true).bind ret) else ((s1 x0 x1 x2 x3 (decide ((elem (Ty.int IntKind.u8) x1 x3) > (126 : Int)))).bind ret)) else none) else ((s3 x0 (-1 : Int) (0 : Int) []).bind ret))
def s1c (ret : R → Option β) (x0 : ByteArray) (x1 : List Int) (x2 x3 : Int) (x4 : Bool) : Option β := (bif x4 then (ret ([], (7 : Int))) else ((s2 x0 x1 x2 x3).bind ret))
def s2c (ret : R → Option β) (x0 : ByteArray) (x1 : List Int) (x2 x3 : Int) : Option β := ((s0 x0 x1 x2 (IntKind.wrap .i64 (x3 + (1 : Int)))).bind ret)
def s3c (ret : R → Option β) (x0 : ByteArray) (x1 x2 : Int) (x3 : List ByteArray) : Option β := (bif (decide (x2 < (x0.size : Int))) then (bif ((decide ((0 : Int) ≤ x2)) && (decide (x2 < (x0.size : Int)))) then (bif ((bt x0 x2) == (32 : Int)) then (bif (decide (x1 ≥ (0 : Int))) then (bif (((decide ((0 : Int) ≤ x1)) && (decide (x1 ≤ x2))) && (decide (x2 ≤ (x0.size : Int)))) then (bif (decide (((x3.length + (1 : Nat)) * (16 : Nat)) ≤ (35184372088832 : Nat))) then ((s4 x0 (-1 : Int) x2 (x3 ++ [(ByteArray.extract x0 (Int.toNat x1) (Int.toNat x2))])).bind ret) else none) else none) else ((s4 x0 x1 x2 x3).bind ret)) else (bif (decide (x1 < (0 : Int))) then ((s5 x0 x2 x2 x3).bind ret) else ((s5 x0 x1 x2 x3).bind ret))) else none) else (bif (decide (x1 ≥ (0 : Int))) then (bif (((decide ((0 : Int) ≤ x1)) && (decide (x1 ≤ (x0.size : Int)))) && (decide ((x0.size : Int) ≤ (x0.size : Int)))) then (bif (decide (((x3.length + (1 : Nat)) * (16 : Nat)) ≤ (35184372088832 : Nat))) then (ret ((x3 ++ [(ByteArray.extract x0 (Int.toNat x1) (Int.toNat (x0.size : Int)))]), (0 : Int))) else none) else none) else (ret (x3, (0 : Int)))))
def s4c (ret : R → Option β) (x0 : ByteArray) (x1 x2 : Int) (x3 : List ByteArray) : Option β := ((s3 x0 x1 (IntKind.wrap .i64 (x2 + (1 : Int))) x3).bind ret)
def s5c (ret : R → Option β) (x0 : ByteArray) (x1 x2 : Int) (x3 : List ByteArray) : Option β := (bif ((decide ((0 : Int) ≤ x2)) && (decide (x2 < (x0.size : Int)))) then (bif ((bt x0 x2) != (34 : Int)) then ((s3 x0 x1 (IntKind.wrap .i64 (x2 + (1 : Int))) x3).bind ret) else ((g40 x0 x2).bind fun r0 => (bif (decide (r0 < (0 : Int))) then (ret ([], (7 : Int))) else ((s3 x0 x1 r0 x3).bind ret)))) else none)
variable {g40} {s0} {s1} {s2} {s3} {s4} {s5}
theorem ev : EvA (env g40 s0 s1 s2 s3 s4 s5) [] [0] e (A (c s0 some)) := fun x y => Eq.trans (b := (A (c s0 fun r => some (e r))).G x y) (by kernel_rfl) (by simp only [A, c, bo, so, oa, os, on, ofs])
theorem s0_ev : EvA (env g40 s0 s1 s2 s3 s4 s5) [4, 1, 0, 1] [0, 10, 11, 12] e (A_0 (s0c s1 s3 some)) := fun x y => Eq.trans (b := (A_0 (s0c s1 s3 fun r => some (e r))).G x y) (by kernel_rfl) (by simp only [A_0, s0c, bo, so, oa, os, on, ofs])
theorem s1_ev : EvA (env g40 s0 s1 s2 s3 s4 s5) [1, 1, 4, 0, 1, 1, 5, 4, 1, 0, 1] [0, 10, 11, 12, 21] e (A_1 (s1c s2 some)) := fun x y => Eq.trans (b := (A_1 (s1c s2 fun r => some (e r))).G x y) (by kernel_rfl) (by simp only [A_1, s1c, bo, so, oa, os, on, ofs])
theorem s2_ev : EvA (env g40 s0 s1 s2 s3 s4 s5) [1, 1, 1, 5, 4, 1, 0, 1] [0, 10, 11, 12] e (A_2 (s2c s0 some)) := fun x y => Eq.trans (b := (A_2 (s2c s0 fun r => some (e r))).G x y) (by kernel_rfl) (by simp only [A_2, s2c, bo, so, oa, os, on, ofs])
theorem s3_ev : EvA (env g40 s0 s1 s2 s3 s4 s5) [4, 1, 0, 1, 1, 1, 1] [0, 6, 7, 8] e (A_3 (s3c s4 s5 some)) := fun x y => Eq.trans (b := (A_3 (s3c s4 s5 fun r => some (e r))).G x y) (by kernel_rfl) (by simp only [A_3, s3c, bo, so, oa, os, on, ofs])
theorem s4_ev : EvA (env g40 s0 s1 s2 s3 s4 s5) [1, 2, 1, 4, 0, 4, 1, 5, 4, 1, 0, 1, 1, 1, 1] [0, 6, 7, 8] e (A_4 (s4c s3 some)) := fun x y => Eq.trans (b := (A_4 (s4c s3 fun r => some (e r))).G x y) (by kernel_rfl) (by simp only [A_4, s4c, bo, so, oa, os, on, ofs])
theorem s5_ev : EvA (env g40 s0 s1 s2 s3 s4 s5) [1, 4, 1, 5, 4, 1, 0, 1, 1, 1, 1] [0, 6, 7, 8] e (A_5 (s5c g40 s3 some)) := fun x y => Eq.trans (b := (A_5 (s5c g40 s3 fun r => some (e r))).G x y) (by kernel_rfl) (by simp only [A_5, s5c, bo, so, oa, os, on, ofs])
end
mutual
def s0 : Nat → S0 R
 | 0, _, _, _, _ => none
 | k + 1, x0, x1, x2, x3 => s0c (s1 k) (s3 k) some x0 x1 x2 x3
def s1 : Nat → S1 R
 | 0, _, _, _, _, _ => none
 | k + 1, x0, x1, x2, x3, x4 => s1c (s2 k) some x0 x1 x2 x3 x4
def s2 : Nat → S2 R
 | 0, _, _, _, _ => none
 | k + 1, x0, x1, x2, x3 => s2c (s0 k) some x0 x1 x2 x3
def s3 : Nat → S3 R
 | 0, _, _, _, _ => none
 | k + 1, x0, x1, x2, x3 => s3c (s4 k) (s5 k) some x0 x1 x2 x3
def s4 : Nat → S4 R
 | 0, _, _, _, _ => none
 | k + 1, x0, x1, x2, x3 => s4c (s3 k) some x0 x1 x2 x3
def s5 : Nat → S5 R
 | 0, _, _, _, _ => none
 | k + 1, x0, x1, x2, x3 => s5c (words_quoted.f k) (s3 k) some x0 x1 x2 x3
end
def f (k : Nat) (a0 : ByteArray) : Option R := c (s0 k) some a0
noncomputable abbrev E (k : Nat) : FEnv := env (words_quoted.f k) (s0 k) (s1 k) (s2 k) (s3 k) (s4 k) (s5 k)
theorem hE (k : Nat) : EnvOK (E k).toEnv := ctsOK (Lc (words_quoted.ok k) L0)
theorem sk : ∀ k, ∀ s ∈ [sg0 (s0 k), sg1 (s1 k), sg2 (s2 k), sg3 (s3 k), sg4 (s4 k), sg5 (s5 k)], SegB prog f17 0 s
 | 0 => (Lc (sn (Lc (fun _ _ => rfl) L0)) (Lc (sn (Lc (fun _ _ => rfl) L0)) (Lc (sn (Lc (fun _ _ => rfl) L0)) (Lc (sn (Lc (fun _ _ => rfl) L0)) (Lc (sn (Lc (fun _ _ => rfl) L0)) (Lc (sn (Lc (fun _ _ => rfl) L0)) L0))))))
 | k + 1 => (Lc (sg_ok (hE k) (sk k) (Lc s0_ev L0)) (Lc (sg_ok (hE k) (sk k) (Lc s1_ev L0)) (Lc (sg_ok (hE k) (sk k) (Lc s2_ev L0)) (Lc (sg_ok (hE k) (sk k) (Lc s3_ev L0)) (Lc (sg_ok (hE k) (sk k) (Lc s4_ev L0)) (Lc (sg_ok (hE k) (sk k) (Lc s5_ev L0)) L0))))))
theorem ok (k : Nat) : CtOK prog 17 (ct (f k)) := fn_ok func17 rfl (by decide) (hE k) (sk k) (Lc ev L0)
end words_Split
namespace sr_next
abbrev R : Type := ByteArray × (List ByteArray) × Bool
def e (r : R) : Res := ⟨.v (.one (.d .str r.1)), [some (.box [(.d (.sl .str) r.2.1), (.d .bool r.2.2)])]⟩
abbrev T (δ : Type) : Type := (List ByteArray) → Bool → Option δ
abbrev A {δ : Type} (g : T δ) : Arm δ := ⟨[.k (.ptr 0 0)], [.box [.g T_story_reader]], fun x y => g y.1.1.1 y.1.1.2.1⟩
abbrev G : Type := T R
def ct (g : G) : Ct := mkCt 1 [] [A g] e
section
variable {β : Type} 
noncomputable abbrev env : FEnv := mkEnv prog f41 [] 1 [] []
def c (ret : R → Option β) (a0 : List ByteArray) (a1 : Bool) : Option β := (bif ((a0.length : Int) == (0 : Int)) then (ret ((ByteArray.mk (List.toArray [])), a0, true)) else (bif (true && (decide ((0 : Int) < (a0.length : Int)))) then (bif ((true && (decide ((1 : Int) ≤ (a0.length : Int)))) && (decide ((a0.length : Int) ≤ (a0.length : Int)))) then (ret ((elem Ty.str a0 (0 : Int)), (List.take ((Int.toNat (a0.length : Int)) - (1 : Nat)) (List.drop (1 : Nat) a0)), a1)) else none) else none))
theorem ev : EvA (env) [] [0] e (A (c some)) := fun x y => Eq.trans (b := (A (c fun r => some (e r))).G x y) (by kernel_rfl) (by simp only [A, c, bo, so, oa, os, on, ofs])
end
def f (k : Nat) (a0 : List ByteArray) (a1 : Bool) : Option R := c  some a0 a1
noncomputable abbrev E (k : Nat) : FEnv := env  
theorem hE (k : Nat) : EnvOK (E k).toEnv := ctsOK L0
theorem ok (k : Nat) : CtOK prog 41 (ct (f k)) := fn_ok func41 rfl (by decide) (hE k) L0 (Lc ev L0)
end sr_next
namespace convert_Number
abbrev R : Type := Int × Int
def e (r : R) : Res := ⟨.tup [(.one (.d (.int .i64) r.1)), (.one (.d (.int .i64) r.2))], []⟩
abbrev T (δ : Type) : Type := ByteArray → Option δ
abbrev A {δ : Type} (g : T δ) : Arm δ := ⟨[.d .str], [], fun x y => g x.1⟩
abbrev G : Type := T R
def ct (g : G) : Ct := mkCt 0 [] [A g] e
abbrev S0 (δ : Type) : Type := ByteArray → ByteArray → Bool → Option δ
abbrev A_0 {δ : Type} (s : S0 δ) : Arm δ := ⟨[.d .str, .d .str, .d .bool], [], fun x y => s x.1 x.2.1 x.2.2.1⟩
abbrev S1 (δ : Type) : Type := ByteArray → ByteArray → Option δ
abbrev A_1 {δ : Type} (s : S1 δ) : Arm δ := ⟨[.d .str, .d .str], [], fun x y => s x.1 x.2.1⟩
abbrev S2 (δ : Type) : Type := ByteArray → ByteArray → Int → (List Int) → Int → Int → Option δ
abbrev A_2 {δ : Type} (s : S2 δ) : Arm δ := ⟨[.d .str, .d .str, .d (.int .u64), .d (.sl (.int .u8)), .d (.int .i64), .d (.int .i64)], [], fun x y => s x.1 x.2.1 x.2.2.1 x.2.2.2.1 x.2.2.2.2.1 x.2.2.2.2.2.1⟩
abbrev S3 (δ : Type) : Type := ByteArray → ByteArray → Int → Int → (List Int) → Int → Int → Bool → Option δ
abbrev A_3 {δ : Type} (s : S3 δ) : Arm δ := ⟨[.d .str, .d .str, .d (.int .u64), .d (.int .u8), .d (.sl (.int .u8)), .d (.int .i64), .d (.int .i64), .d .bool], [], fun x y => s x.1 x.2.1 x.2.2.1 x.2.2.2.1 x.2.2.2.2.1 x.2.2.2.2.2.1 x.2.2.2.2.2.2.1 x.2.2.2.2.2.2.2.1⟩
abbrev S4 (δ : Type) : Type := ByteArray → ByteArray → Int → Int → (List Int) → Int → Int → Option δ
abbrev A_4 {δ : Type} (s : S4 δ) : Arm δ := ⟨[.d .str, .d .str, .d (.int .u64), .d (.int .u8), .d (.sl (.int .u8)), .d (.int .i64), .d (.int .i64)], [], fun x y => s x.1 x.2.1 x.2.2.1 x.2.2.2.1 x.2.2.2.2.1 x.2.2.2.2.2.1 x.2.2.2.2.2.2.1⟩
abbrev S5 (δ : Type) : Type := ByteArray → ByteArray → Int → (List Int) → Int → Int → Option δ
abbrev A_5 {δ : Type} (s : S5 δ) : Arm δ := ⟨[.d .str, .d .str, .d (.int .u64), .d (.sl (.int .u8)), .d (.int .i64), .d (.int .i64)], [], fun x y => s x.1 x.2.1 x.2.2.1 x.2.2.2.1 x.2.2.2.2.1 x.2.2.2.2.2.1⟩
def sg0 (s : S0 R) : Seg := mkSg [1, 0, 1, 1] [] [0, 4, 16] [A_0 s] e
def sg1 (s : S1 R) : Seg := mkSg [1, 1, 1] [] [0, 4] [A_1 s] e
def sg2 (s : S2 R) : Seg := mkSg [4, 1, 0, 1, 1, 1, 1, 1] [] [0, 4, 5, 23, 24, 25] [A_2 s] e
def sg3 (s : S3 R) : Seg := mkSg [1, 0, 1, 4, 0, 1, 1, 5, 4, 1, 0, 1, 1, 1, 1, 1] [] [0, 4, 5, 7, 23, 24, 25, 34] [A_3 s] e
def sg4 (s : S4 R) : Seg := mkSg [1, 1, 4, 0, 1, 1, 5, 4, 1, 0, 1, 1, 1, 1, 1] [] [0, 4, 5, 7, 23, 24, 25] [A_4 s] e
def sg5 (s : S5 R) : Seg := mkSg [1, 1, 1, 5, 4, 1, 0, 1, 1, 1, 1, 1] [] [0, 4, 5, 23, 24, 25] [A_5 s] e
section
variable {β : Type} (g55 : convert_Digits.G) (s0 : S0 R) (s1 : S1 R) (s2 : S2 R) (s3 : S3 R) (s4 : S4 R) (s5 : S5 R)
noncomputable abbrev env : FEnv := mkEnv prog f69 [(55, convert_Digits.ct g55)] 0 [] [sg0 s0, sg1 s1, sg2 s2, sg3 s3, sg4 s4, sg5 s5]
def c (ret : R → Option β) (a0 : ByteArray) : Option β := (bif (!(a0.toList == (ByteArray.toList (ByteArray.mk (List.toArray []))))) then (bif (true && (decide ((0 : Int) < (a0.size : Int)))) then ((s0 a0 a0 ((bt a0 (0 : Int)) == (45 : Int))).bind ret) else none) else ((s0 a0 a0 false).bind ret))
def s0c (ret : R → Option β) (x0 x1 : ByteArray) (x2 : Bool) : Option β := (bif x2 then (bif ((true && (decide ((1 : Int) ≤ (x0.size : Int)))) && (decide ((x0.size : Int) ≤ (x0.size : Int)))) then ((s1 x0 (ByteArray.extract x0 (1 : Nat) (Int.toNat (x0.size : Int)))).bind ret) else none) else ((s1 x0 x1).bind ret))
def s1c (ret : R → Option β) (x0 x1 : ByteArray) : Option β := (bif (decide ((x1.size : Int) ≥ (20 : Int))) then (ret ((0 : Int), (7 : Int))) else ((s2 x0 x1 (0 : Int) (List.map (fun b => ((UInt8.toNat b) : Int)) (Array.toList (ByteArray.data x1))) ((List.length (List.map (fun b => ((UInt8.toNat b) : Int)) (Array.toList (ByteArray.data x1)))) : Int) (0 : Int)).bind ret))
def s2c (ret : R → Option β) (x0 x1 : ByteArray) (x2 : Int) (x3 : List Int) (x4 x5 : Int) : Option β := (bif (decide (x5 < x4)) then (bif ((decide ((0 : Int) ≤ x5)) && (decide (x5 < (x3.length : Int)))) then (bif (decide ((elem (Ty.int IntKind.u8) x3 x5) < (48 : Int))) then ((s3 x0 x1 x2 (elem (Ty.int IntKind.u8) x3 x5) x3 x4 x5 true).bind ret) else ((s3 x0 x1 x2 (elem (Ty.int IntKind.u8) x3 x5) x3 x4 x5 (decide ((elem (Ty.int IntKind.u8) x3 x5) > (57 : Int)))).bind ret)) else none) else (bif (decide ((x1.size : Int) < (x0.size : Int))) then ((g55 (IntKind.wrap .i64 (IntKind.wrap .u64 ((0 : Int) - x2)))).bind fun r0 => (bif (!(r0.toList == x0.toList)) then (ret ((0 : Int), (7 : Int))) else (ret ((IntKind.wrap .i64 (IntKind.wrap .u64 ((0 : Int) - x2))), (0 : Int))))) else ((g55 (IntKind.wrap .i64 x2)).bind fun r1 => (bif (!(r1.toList == x0.toList)) then (ret ((0 : Int), (7 : Int))) else (ret ((IntKind.wrap .i64 x2), (0 : Int)))))))
def s3c (ret : R → Option β) (x0 x1 : ByteArray) (x2 x3 : Int) (x4 : List Int) (x5 x6 : Int) (x7 : Bool) : Option β := (bif x7 then (ret ((0 : Int), (7 : Int))) else ((s4 x0 x1 x2 x3 x4 x5 x6).bind ret))
def s4c (ret : R → Option β) (x0 x1 : ByteArray) (x2 x3 : Int) (x4 : List Int) (x5 x6 : Int) : Option β := ((s5 x0 x1 (IntKind.wrap .u64 ((IntKind.wrap .u64 (x2 * (10 : Int))) + (IntKind.wrap .u64 (IntKind.wrap .u8 (x3 - (48 : Int)))))) x4 x5 x6).bind ret)
def s5c (ret : R → Option β) (x0 x1 : ByteArray) (x2 : Int) (x3 : List Int) (x4 x5 : Int) : Option β := ((s2 x0 x1 x2 x3 x4 (IntKind.wrap .i64 (x5 + (1 : Int)))).bind ret)
variable {g55} {s0} {s1} {s2} {s3} {s4} {s5}
theorem ev : EvA (env g55 s0 s1 s2 s3 s4 s5) [] [0] e (A (c s0 some)) := fun x y => Eq.trans (b := (A (c s0 fun r => some (e r))).G x y) (by kernel_rfl) (by simp only [A, c, bo, so, oa, os, on, ofs])
theorem s0_ev : EvA (env g55 s0 s1 s2 s3 s4 s5) [1, 0, 1, 1] [0, 4, 16] e (A_0 (s0c s1 some)) := fun x y => Eq.trans (b := (A_0 (s0c s1 fun r => some (e r))).G x y) (by kernel_rfl) (by simp only [A_0, s0c, bo, so, oa, os, on, ofs])
theorem s1_ev : EvA (env g55 s0 s1 s2 s3 s4 s5) [1, 1, 1] [0, 4] e (A_1 (s1c s2 some)) := fun x y => Eq.trans (b := (A_1 (s1c s2 fun r => some (e r))).G x y) (by kernel_rfl) (by simp only [A_1, s1c, bo, so, oa, os, on, ofs])
theorem s2_ev : EvA (env g55 s0 s1 s2 s3 s4 s5) [4, 1, 0, 1, 1, 1, 1, 1] [0, 4, 5, 23, 24, 25] e (A_2 (s2c g55 s3 some)) := fun x y => Eq.trans (b := (A_2 (s2c g55 s3 fun r => some (e r))).G x y) (by kernel_rfl) (by simp only [A_2, s2c, bo, so, oa, os, on, ofs])
theorem s3_ev : EvA (env g55 s0 s1 s2 s3 s4 s5) [1, 0, 1, 4, 0, 1, 1, 5, 4, 1, 0, 1, 1, 1, 1, 1] [0, 4, 5, 7, 23, 24, 25, 34] e (A_3 (s3c s4 some)) := fun x y => Eq.trans (b := (A_3 (s3c s4 fun r => some (e r))).G x y) (by kernel_rfl) (by simp only [A_3, s3c, bo, so, oa, os, on, ofs])
theorem s4_ev : EvA (env g55 s0 s1 s2 s3 s4 s5) [1, 1, 4, 0, 1, 1, 5, 4, 1, 0, 1, 1, 1, 1, 1] [0, 4, 5, 7, 23, 24, 25] e (A_4 (s4c s5 some)) := fun x y => Eq.trans (b := (A_4 (s4c s5 fun r => some (e r))).G x y) (by kernel_rfl) (by simp only [A_4, s4c, bo, so, oa, os, on, ofs])
theorem s5_ev : EvA (env g55 s0 s1 s2 s3 s4 s5) [1, 1, 1, 5, 4, 1, 0, 1, 1, 1, 1, 1] [0, 4, 5, 23, 24, 25] e (A_5 (s5c s2 some)) := fun x y => Eq.trans (b := (A_5 (s5c s2 fun r => some (e r))).G x y) (by kernel_rfl) (by simp only [A_5, s5c, bo, so, oa, os, on, ofs])
end
mutual
def s0 : Nat → S0 R
 | 0, _, _, _ => none
 | k + 1, x0, x1, x2 => s0c (s1 k) some x0 x1 x2
def s1 : Nat → S1 R
 | 0, _, _ => none
 | k + 1, x0, x1 => s1c (s2 k) some x0 x1
def s2 : Nat → S2 R
 | 0, _, _, _, _, _, _ => none
 | k + 1, x0, x1, x2, x3, x4, x5 => s2c (convert_Digits.f k) (s3 k) some x0 x1 x2 x3 x4 x5
def s3 : Nat → S3 R
 | 0, _, _, _, _, _, _, _, _ => none
 | k + 1, x0, x1, x2, x3, x4, x5, x6, x7 => s3c (s4 k) some x0 x1 x2 x3 x4 x5 x6 x7
def s4 : Nat → S4 R
 | 0, _, _, _, _, _, _, _ => none
 | k + 1, x0, x1, x2, x3, x4, x5, x6 => s4c (s5 k) some x0 x1 x2 x3 x4 x5 x6
def s5 : Nat → S5 R
 | 0, _, _, _, _, _, _ => none
 | k + 1, x0, x1, x2, x3, x4, x5 => s5c (s2 k) some x0 x1 x2 x3 x4 x5
end
def f (k : Nat) (a0 : ByteArray) : Option R := c (s0 k) some a0
noncomputable abbrev E (k : Nat) : FEnv := env (convert_Digits.f k) (s0 k) (s1 k) (s2 k) (s3 k) (s4 k) (s5 k)
theorem hE (k : Nat) : EnvOK (E k).toEnv := ctsOK (Lc (convert_Digits.ok k) L0)
theorem sk : ∀ k, ∀ s ∈ [sg0 (s0 k), sg1 (s1 k), sg2 (s2 k), sg3 (s3 k), sg4 (s4 k), sg5 (s5 k)], SegB prog f69 0 s
 | 0 => (Lc (sn (Lc (fun _ _ => rfl) L0)) (Lc (sn (Lc (fun _ _ => rfl) L0)) (Lc (sn (Lc (fun _ _ => rfl) L0)) (Lc (sn (Lc (fun _ _ => rfl) L0)) (Lc (sn (Lc (fun _ _ => rfl) L0)) (Lc (sn (Lc (fun _ _ => rfl) L0)) L0))))))
 | k + 1 => (Lc (sg_ok (hE k) (sk k) (Lc s0_ev L0)) (Lc (sg_ok (hE k) (sk k) (Lc s1_ev L0)) (Lc (sg_ok (hE k) (sk k) (Lc s2_ev L0)) (Lc (sg_ok (hE k) (sk k) (Lc s3_ev L0)) (Lc (sg_ok (hE k) (sk k) (Lc s4_ev L0)) (Lc (sg_ok (hE k) (sk k) (Lc s5_ev L0)) L0))))))
theorem ok (k : Nat) : CtOK prog 69 (ct (f k)) := fn_ok func69 rfl (by decide) (hE k) (sk k) (Lc ev L0)
end convert_Number
namespace sr_number
abbrev R : Type := Int × (List ByteArray) × Bool
def e (r : R) : Res := ⟨.v (.one (.d (.int .i64) r.1)), [some (.box [(.d (.sl .str) r.2.1), (.d .bool r.2.2)])]⟩
abbrev T (δ : Type) : Type := (List ByteArray) → Bool → Option δ
abbrev A {δ : Type} (g : T δ) : Arm δ := ⟨[.k (.ptr 0 0)], [.box [.g T_story_reader]], fun x y => g y.1.1.1 y.1.1.2.1⟩
abbrev G : Type := T R
def ct (g : G) : Ct := mkCt 1 [] [A g] e
section
variable {β : Type} (g41 : sr_next.G) (g69 : convert_Number.G)
noncomputable abbrev env : FEnv := mkEnv prog f42 [(41, sr_next.ct g41), (69, convert_Number.ct g69)] 1 [] []
def c (ret : R → Option β) (a0 : List ByteArray) (a1 : Bool) : Option β := ((g41 a0 a1).bind fun r0 => ((g69 r0.1).bind fun r1 => (bif r0.2.2 then (ret (r1.1, r0.2.1, true)) else (ret (r1.1, r0.2.1, (r1.2 != (0 : Int)))))))
variable {g41} {g69}
theorem ev : EvA (env g41 g69) [] [0] e (A (c g41 g69 some)) := fun x y => Eq.trans (b := (A (c g41 g69 fun r => some (e r))).G x y) (by kernel_rfl) (by simp only [A, c, bo, so, oa, os, on, ofs])
end
def f (k : Nat) (a0 : List ByteArray) (a1 : Bool) : Option R := c (sr_next.f k) (convert_Number.f k) some a0 a1
noncomputable abbrev E (k : Nat) : FEnv := env (sr_next.f k) (convert_Number.f k) 
theorem hE (k : Nat) : EnvOK (E k).toEnv := ctsOK (Lc (sr_next.ok k) (Lc (convert_Number.ok k) L0))
theorem ok (k : Nat) : CtOK prog 42 (ct (f k)) := fn_ok func42 rfl (by decide) (hE k) L0 (Lc ev L0)
end sr_number
namespace sr_rest
abbrev R : Type := (List ByteArray) × Bool
def e (r : R) : Res := ⟨.v (.one (.d (.sl .str) r.1)), [some (.box [(.raw (.slice none 0 0)), (.d .bool r.2)])]⟩
abbrev T (δ : Type) : Type := (List ByteArray) → Bool → Option δ
abbrev A {δ : Type} (g : T δ) : Arm δ := ⟨[.k (.ptr 0 0)], [.box [.g T_story_reader]], fun x y => g y.1.1.1 y.1.1.2.1⟩
abbrev G : Type := T R
def ct (g : G) : Ct := mkCt 1 [] [A g] e
section
variable {β : Type} 
noncomputable abbrev env : FEnv := mkEnv prog f70 [] 1 [] []
def c (ret : R → Option β) (a0 : List ByteArray) (a1 : Bool) : Option β := (ret (a0, a1))
theorem ev : EvA (env) [] [0] e (A (c some)) := fun x y => Eq.trans (b := (A (c fun r => some (e r))).G x y) (by kernel_rfl) (by simp only [A, c, bo, so, oa, os, on, ofs])
end
def f (k : Nat) (a0 : List ByteArray) (a1 : Bool) : Option R := c  some a0 a1
noncomputable abbrev E (k : Nat) : FEnv := env  
theorem hE (k : Nat) : EnvOK (E k).toEnv := ctsOK L0
theorem ok (k : Nat) : CtOK prog 70 (ct (f k)) := fn_ok func70 rfl (by decide) (hE k) L0 (Lc ev L0)
end sr_rest
namespace sIx
def e (r : Int) : Res := ⟨.v (.one (.d (.int .i64) r)), []⟩
abbrev T (δ : Type) : Type := (List ByteArray) → ByteArray → Option δ
abbrev A {δ : Type} (g : T δ) : Arm δ := ⟨[.d (.sl .str), .d .str], [], fun x y => g x.1 x.2.1⟩
abbrev G : Type := T Int
def ct (g : G) : Ct := mkCt 0 [] [A g] e
abbrev S0 (δ : Type) : Type := (List ByteArray) → ByteArray → Int → Int → Option δ
abbrev A_0 {δ : Type} (s : S0 δ) : Arm δ := ⟨[.d (.sl .str), .d .str, .d (.int .i64), .d (.int .i64)], [], fun x y => s x.1 x.2.1 x.2.2.1 x.2.2.2.1⟩
def sg0 (s : S0 Int) : Seg := mkSg [4, 1, 0, 1] [] [0, 1, 7, 8] [A_0 s] e
section
variable {β : Type} (s0 : S0 Int)
noncomputable abbrev env : FEnv := mkEnv prog f71 [] 0 [] [sg0 s0]
def c (ret : Int → Option β) (a0 : List ByteArray) (a1 : ByteArray) : Option β := ((s0 a0 a1 (a0.length : Int) (0 : Int)).bind ret)
def s0c (ret : Int → Option β) (x0 : List ByteArray) (x1 : ByteArray) (x2 x3 : Int) : Option β := (bif (decide (x3 < x2)) then (bif ((decide ((0 : Int) ≤ x3)) && (decide (x3 < (x0.length : Int)))) then (bif (x1.toList == (ByteArray.toList (elem Ty.str x0 x3))) then (ret (x3)) else ((s0 x0 x1 x2 (IntKind.wrap .i64 (x3 + (1 : Int)))).bind ret)) else none) else (ret ((-1 : Int))))
variable {s0}
theorem ev : EvA (env s0) [] [0, 1] e (A (c s0 some)) := fun x y => Eq.trans (b := (A (c s0 fun r => some (e r))).G x y) (by kernel_rfl) (by simp only [A, c, bo, so, oa, os, on, ofs])
theorem s0_ev : EvA (env s0) [4, 1, 0, 1] [0, 1, 7, 8] e (A_0 (s0c s0 some)) := fun x y => Eq.trans (b := (A_0 (s0c s0 fun r => some (e r))).G x y) (by kernel_rfl) (by simp only [A_0, s0c, bo, so, oa, os, on, ofs])
end
def s0 : Nat → S0 Int
 | 0, _, _, _, _ => none
 | k + 1, x0, x1, x2, x3 => s0c (s0 k) some x0 x1 x2 x3
def f (k : Nat) (a0 : List ByteArray) (a1 : ByteArray) : Option Int := c (s0 k) some a0 a1
noncomputable abbrev E (k : Nat) : FEnv := env  (s0 k)
theorem hE (k : Nat) : EnvOK (E k).toEnv := ctsOK L0
theorem sk : ∀ k, ∀ s ∈ [sg0 (s0 k)], SegB prog f71 0 s
 | 0 => (Lc (sn (Lc (fun _ _ => rfl) L0)) L0)
 | k + 1 => (Lc (sg_ok (hE k) (sk k) (Lc s0_ev L0)) L0)
theorem ok (k : Nat) : CtOK prog 71 (ct (f k)) := fn_ok func71 rfl (by decide) (hE k) (sk k) (Lc ev L0)
end sIx
namespace words_hex
def e (r : Int) : Res := ⟨.v (.one (.d (.int .u8) r)), []⟩
abbrev T (δ : Type) : Type := ByteArray → Option δ
abbrev A {δ : Type} (g : T δ) : Arm δ := ⟨[.d .str], [], fun x y => g x.1⟩
abbrev G : Type := T Int
def ct (g : G) : Ct := mkCt 0 [] [A g] e
abbrev S0 (δ : Type) : Type := Int → (List Int) → Int → Int → Option δ
abbrev A_0 {δ : Type} (s : S0 δ) : Arm δ := ⟨[.d (.int .i64), .d (.sl (.int .u8)), .d (.int .i64), .d (.int .i64)], [], fun x y => s x.1 x.2.1 x.2.2.1 x.2.2.2.1⟩
abbrev S1 (δ : Type) : Type := Int → Int → (List Int) → Int → Int → Int → Option δ
abbrev A_1 {δ : Type} (s : S1 δ) : Arm δ := ⟨[.d (.int .i64), .d (.int .u8), .d (.sl (.int .u8)), .d (.int .i64), .d (.int .i64), .d (.int .i64)], [], fun x y => s x.1 x.2.1 x.2.2.1 x.2.2.2.1 x.2.2.2.2.1 x.2.2.2.2.2.1⟩
abbrev S2 (δ : Type) : Type := Int → Int → (List Int) → Int → Int → Int → Option δ
abbrev A_2 {δ : Type} (s : S2 δ) : Arm δ := ⟨[.d (.int .i64), .d (.int .u8), .d (.sl (.int .u8)), .d (.int .i64), .d (.int .i64), .d (.int .i64)], [], fun x y => s x.1 x.2.1 x.2.2.1 x.2.2.2.1 x.2.2.2.2.1 x.2.2.2.2.2.1⟩
def sg0 (s : S0 Int) : Seg := mkSg [4, 1, 0, 1, 1] [] [3, 8, 9, 10] [A_0 s] e
def sg1 (s : S1 Int) : Seg := mkSg [4, 1, 1, 1, 4, 0, 1, 1, 5, 4, 1, 0, 1, 1] [] [3, 5, 8, 9, 10, 16] [A_1 s] e
def sg2 (s : S2 Int) : Seg := mkSg [1, 1, 1, 5, 4, 1, 1, 1, 4, 0, 1, 1, 5, 4, 1, 0, 1, 1] [] [3, 5, 8, 9, 10, 16] [A_2 s] e
section
variable {β : Type} (s0 : S0 Int) (s1 : S1 Int) (s2 : S2 Int)
noncomputable abbrev env : FEnv := mkEnv prog f125 [] 0 [] [sg0 s0, sg1 s1, sg2 s2]
def c (ret : Int → Option β) (a0 : ByteArray) : Option β := ((s0 (0 : Int) (List.map (fun b => ((UInt8.toNat b) : Int)) (Array.toList (ByteArray.data a0))) ((List.length (List.map (fun b => ((UInt8.toNat b) : Int)) (Array.toList (ByteArray.data a0)))) : Int) (0 : Int)).bind ret)
def s0c (ret : Int → Option β) (x0 : Int) (x1 : List Int) (x2 x3 : Int) : Option β := (bif (decide (x3 < x2)) then (bif ((decide ((0 : Int) ≤ x3)) && (decide (x3 < (x1.length : Int)))) then ((s1 (IntKind.wrap .i64 (x0 * (16 : Int))) (elem (Ty.int IntKind.u8) x1 x3) x1 x2 x3 (0 : Int)).bind ret) else none) else (ret ((IntKind.wrap .u8 x0))))
def s1c (ret : Int → Option β) (x0 x1 : Int) (x2 : List Int) (x3 x4 x5 : Int) : Option β := (bif (decide (x5 < (16 : Int))) then (bif ((decide ((0 : Int) ≤ x5)) && (decide (x5 < (16 : Int)))) then (bif ((bt (ByteArray.mk (List.toArray [48, 49, 50, 51, 52, 53, 54, 55, 56, 57, 97, 98, 99, 100, 101, 102])) x5) == x1) then ((s2 (IntKind.wrap .i64 ((BitVec.toNat ((BitVec.ofInt (64 : Nat) x0) ||| (BitVec.ofInt (64 : Nat) x5))) : Int)) x1 x2 x3 x4 x5).bind ret) else ((s2 x0 x1 x2 x3 x4 x5).bind ret)) else none) else ((s0 x0 x2 x3 (IntKind.wrap .i64 (x4 + (1 : Int)))).bind ret))
def s2c (ret : Int → Option β) (x0 x1 : Int) (x2 : List Int) (x3 x4 x5 : Int) : Option β := ((s1 x0 x1 x2 x3 x4 (IntKind.wrap .i64 (x5 + (1 : Int)))).bind ret)
variable {s0} {s1} {s2}
theorem ev : EvA (env s0 s1 s2) [] [0] e (A (c s0 some)) := fun x y => Eq.trans (b := (A (c s0 fun r => some (e r))).G x y) (by kernel_rfl) (by simp only [A, c, bo, so, oa, os, on, ofs])
theorem s0_ev : EvA (env s0 s1 s2) [4, 1, 0, 1, 1] [3, 8, 9, 10] e (A_0 (s0c s1 some)) := fun x y => Eq.trans (b := (A_0 (s0c s1 fun r => some (e r))).G x y) (by kernel_rfl) (by simp only [A_0, s0c, bo, so, oa, os, on, ofs])
theorem s1_ev : EvA (env s0 s1 s2) [4, 1, 1, 1, 4, 0, 1, 1, 5, 4, 1, 0, 1, 1] [3, 5, 8, 9, 10, 16] e (A_1 (s1c s0 s2 some)) := fun x y => Eq.trans (b := (A_1 (s1c s0 s2 fun r => some (e r))).G x y) (by kernel_rfl) (by simp only [A_1, s1c, bo, so, oa, os, on, ofs])
theorem s2_ev : EvA (env s0 s1 s2) [1, 1, 1, 5, 4, 1, 1, 1, 4, 0, 1, 1, 5, 4, 1, 0, 1, 1] [3, 5, 8, 9, 10, 16] e (A_2 (s2c s1 some)) := fun x y => Eq.trans (b := (A_2 (s2c s1 fun r => some (e r))).G x y) (by kernel_rfl) (by simp only [A_2, s2c, bo, so, oa, os, on, ofs])
end
mutual
def s0 : Nat → S0 Int
 | 0, _, _, _, _ => none
 | k + 1, x0, x1, x2, x3 => s0c (s1 k) some x0 x1 x2 x3
def s1 : Nat → S1 Int
 | 0, _, _, _, _, _, _ => none
 | k + 1, x0, x1, x2, x3, x4, x5 => s1c (s0 k) (s2 k) some x0 x1 x2 x3 x4 x5
def s2 : Nat → S2 Int
 | 0, _, _, _, _, _, _ => none
 | k + 1, x0, x1, x2, x3, x4, x5 => s2c (s1 k) some x0 x1 x2 x3 x4 x5
end
def f (k : Nat) (a0 : ByteArray) : Option Int := c (s0 k) some a0
noncomputable abbrev E (k : Nat) : FEnv := env  (s0 k) (s1 k) (s2 k)
theorem hE (k : Nat) : EnvOK (E k).toEnv := ctsOK L0
theorem sk : ∀ k, ∀ s ∈ [sg0 (s0 k), sg1 (s1 k), sg2 (s2 k)], SegB prog f125 0 s
 | 0 => (Lc (sn (Lc (fun _ _ => rfl) L0)) (Lc (sn (Lc (fun _ _ => rfl) L0)) (Lc (sn (Lc (fun _ _ => rfl) L0)) L0)))
 | k + 1 => (Lc (sg_ok (hE k) (sk k) (Lc s0_ev L0)) (Lc (sg_ok (hE k) (sk k) (Lc s1_ev L0)) (Lc (sg_ok (hE k) (sk k) (Lc s2_ev L0)) L0)))
theorem ok (k : Nat) : CtOK prog 125 (ct (f k)) := fn_ok func125 rfl (by decide) (hE k) (sk k) (Lc ev L0)
end words_hex
namespace stringslite_HasPrefix
def e (r : Bool) : Res := ⟨.v (.one (.d .bool r)), []⟩
abbrev T (δ : Type) : Type := ByteArray → ByteArray → Option δ
abbrev A {δ : Type} (g : T δ) : Arm δ := ⟨[.d .str, .d .str], [], fun x y => g x.1 x.2.1⟩
abbrev G : Type := T Bool
def ct (g : G) : Ct := mkCt 0 [] [A g] e
section
variable {β : Type} 
noncomputable abbrev env : FEnv := mkEnv prog f138 [] 0 [] []
def c (ret : Bool → Option β) (a0 a1 : ByteArray) : Option β := (bif (decide ((a0.size : Int) ≥ (a1.size : Int))) then (bif (true && (decide ((a1.size : Int) ≤ (a0.size : Int)))) then (ret (((ByteArray.toList (ByteArray.extract a0 (0 : Nat) (Int.toNat (a1.size : Int)))) == a1.toList))) else none) else (ret (false)))
theorem ev : EvA (env) [] [0, 1] e (A (c some)) := fun x y => Eq.trans (b := (A (c fun r => some (e r))).G x y) (by kernel_rfl) (by simp only [A, c, bo, so, oa, os, on, ofs])
end
def f (k : Nat) (a0 a1 : ByteArray) : Option Bool := c  some a0 a1
noncomputable abbrev E (k : Nat) : FEnv := env  
theorem hE (k : Nat) : EnvOK (E k).toEnv := ctsOK L0
theorem ok (k : Nat) : CtOK prog 138 (ct (f k)) := fn_ok func138 rfl (by decide) (hE k) L0 (Lc ev L0)
end stringslite_HasPrefix
namespace strings_HasPrefix
def e (r : Bool) : Res := ⟨.v (.one (.d .bool r)), []⟩
abbrev T (δ : Type) : Type := ByteArray → ByteArray → Option δ
abbrev A {δ : Type} (g : T δ) : Arm δ := ⟨[.d .str, .d .str], [], fun x y => g x.1 x.2.1⟩
abbrev G : Type := T Bool
def ct (g : G) : Ct := mkCt 0 [] [A g] e
section
variable {β : Type} (g138 : stringslite_HasPrefix.G)
noncomputable abbrev env : FEnv := mkEnv prog f126 [(138, stringslite_HasPrefix.ct g138)] 0 [] []
def c (ret : Bool → Option β) (a0 a1 : ByteArray) : Option β := ((g138 a0 a1).bind fun r0 => (ret (r0)))
variable {g138}
theorem ev : EvA (env g138) [] [0, 1] e (A (c g138 some)) := fun x y => Eq.trans (b := (A (c g138 fun r => some (e r))).G x y) (by kernel_rfl) (by simp only [A, c, bo, so, oa, os, on, ofs])
end
def f (k : Nat) (a0 a1 : ByteArray) : Option Bool := c (stringslite_HasPrefix.f k) some a0 a1
noncomputable abbrev E (k : Nat) : FEnv := env (stringslite_HasPrefix.f k) 
theorem hE (k : Nat) : EnvOK (E k).toEnv := ctsOK (Lc (stringslite_HasPrefix.ok k) L0)
theorem ok (k : Nat) : CtOK prog 126 (ct (f k)) := fn_ok func126 rfl (by decide) (hE k) L0 (Lc ev L0)
end strings_HasPrefix
end Go.Proofs.YtimadphjdkjgaaaGreatDoor.Aev
