import Derived.Test.YtijjlpgcpdapnaaGreatDoorTys
import Derived.Test.YtijjlpgcpdapnaaGreatDoorProg
import Derived.Laws.Externs
import Derived.Lib.Bytealg
import Derived.Test.YtijjlpgcpdapnaaGreatDoorF1
import Derived.Test.YtijjlpgcpdapnaaGreatDoorF2
import Derived.Test.YtijjlpgcpdapnaaGreatDoorF3
import Derived.Test.YtijjlpgcpdapnaaGreatDoorF4
/- By a program of this session (AEV): functions of the program as plain functions, and that the machine does what they say. -/
namespace Go.Proofs.YtijjlpgcpdapnaaGreatDoor.Aev
set_option linter.unusedVariables false
set_option linter.unusedSimpArgs false
set_option maxRecDepth 100000
set_option maxHeartbeats 4000000
open Go Go.Proofs.Tryz
namespace convert_Number
abbrev R : Type := Int × Int
def e (r : R) : Res := ⟨.tup [(.one (.d (.int .i64) r.1)), (.one (.d (.int .i64) r.2))], []⟩
abbrev T (δ : Type) : Type := ByteArray → Option δ
abbrev A {δ : Type} (g : T δ) : Arm δ := ⟨[.d .str], [], fun x y => g x.1⟩
abbrev G : Type := T R
def ct (g : G) : Ct := mkCt 0 [] [A g] e
abbrev S0 (δ : Type) : Type := ByteArray → ByteArray → Bool → Option δ
abbrev A_0 {δ : Type} (s : S0 δ) : Arm δ := ⟨[.d .str, .d .str, .d .bool], [], fun x y => s x.1 x.2.1 x.2.2.1⟩
abbrev S1 (δ : Type) : Type := ByteArray → ByteArray → Option δ
abbrev A_1 {δ : Type} (s : S1 δ) : Arm δ := ⟨[.d .str, .d .str], [], fun x y => s x.1 x.2.1⟩
abbrev S2 (δ : Type) : Type := ByteArray → ByteArray → Int → (List Int) → Int → Int → Option δ
abbrev A_2 {δ : Type} (s : S2 δ) : Arm δ := ⟨[.d .str, .d .str, .d (.int .u64), .d (.sl (.int .u8)), .d (.int .i64), .d (.int .i64)], [], fun x y => s x.1 x.2.1 x.2.2.1 x.2.2.2.1 x.2.2.2.2.1 x.2.2.2.2.2.1⟩
abbrev S3 (δ : Type) : Type := ByteArray → ByteArray → Int → Int → (List Int) → Int → Int → Bool → Option δ
abbrev A_3 {δ : Type} (s : S3 δ) : Arm δ := ⟨[.d .str, .d .str, .d (.int .u64), .d (.int .u8), .d (.sl (.int .u8)), .d (.int .i64), .d (.int .i64), .d .bool], [], fun x y => s x.1 x.2.1 x.2.2.1 x.2.2.2.1 x.2.2.2.2.1 x.2.2.2.2.2.1 x.2.2.2.2.2.2.1 x.2.2.2.2.2.2.2.1⟩
abbrev S4 (δ : Type) : Type := ByteArray → ByteArray → Int → Int → (List Int) → Int → Int → Option δ
abbrev A_4 {δ : Type} (s : S4 δ) : Arm δ := ⟨[.d .str, .d .str, .d (.int .u64), .d (.int .u8), .d (.sl (.int .u8)), .d (.int .i64), .d (.int .i64)], [], fun x y => s x.1 x.2.1 x.2.2.1 x.2.2.2.1 x.2.2.2.2.1 x.2.2.2.2.2.1 x.2.2.2.2.2.2.1⟩
abbrev S5 (δ : Type) : Type := ByteArray → ByteArray → Int → (List Int) → Int → Int → Option δ
abbrev A_5 {δ : Type} (s : S5 δ) : Arm δ := ⟨[.d .str, .d .str, .d (.int .u64), .d (.sl (.int .u8)), .d (.int .i64), .d (.int .i64)], [], fun x y => s x.1 x.2.1 x.2.2.1 x.2.2.2.1 x.2.2.2.2.1 x.2.2.2.2.2.1⟩
def sg0 (s : S0 R) : Seg := mkSg [1, 0, 1, 1] [] [0, 4, 16] [A_0 s] e
def sg1 (s : S1 R) : Seg := mkSg [1, 1, 1] [] [0, 4] [A_1 s] e
def sg2 (s : S2 R) : Seg := mkSg [4, 1, 0, 1, 1, 1, 1, 1] [] [0, 4, 5, 23, 24, 25] [A_2 s] e
def sg3 (s : S3 R) : Seg := mkSg [1, 0, 1, 4, 0, 1, 1, 5, 4, 1, 0, 1, 1, 1, 1, 1] [] [0, 4, 5, 7, 23, 24, 25, 34] [A_3 s] e
def sg4 (s : S4 R) : Seg := mkSg [1, 1, 4, 0, 1, 1, 5, 4, 1, 0, 1, 1, 1, 1, 1] [] [0, 4, 5, 7, 23, 24, 25] [A_4 s] e
def sg5 (s : S5 R) : Seg := mkSg [1, 1, 1, 5, 4, 1, 0, 1, 1, 1, 1, 1] [] [0, 4, 5, 23, 24, 25] [A_5 s] e
section
variable {β : Type} (g81 : convert_Digits.G) (s0 : S0 R) (s1 : S1 R) (s2 : S2 R) (s3 : S3 R) (s4 : S4 R) (s5 : S5 R)
noncomputable abbrev env : FEnv := mkEnv prog f83 [(81, convert_Digits.ct g81)] 0 [] [sg0 s0, sg1 s1, sg2 s2, sg3 s3, sg4 s4, sg5 s5]
def c (ret : R → Option β) (a0 : ByteArray) : Option β := (bif (!(a0.toList == (ByteArray.toList (ByteArray.mk (List.toArray []))))) then (bif (true && (decide ((0 : Int) < (a0.size : Int)))) then ((s0 a0 a0 ((bt a0 (0 : Int)) == (45 : Int))).bind ret) else none) else ((s0 a0 a0 false).bind ret))
def s0c (ret : R → Option β) (x0 x1 : ByteArray) (x2 : Bool) : Option β := (bif x2 then (bif ((true && (decide ((1 : Int) ≤ (x0.size : Int)))) && (decide ((x0.size : Int) ≤ (x0.size : Int)))) then ((s1 x0 (ByteArray.extract x0 (1 : Nat) (Int.toNat (x0.size : Int)))).bind ret) else none) else ((s1 x0 x1).bind ret))
def s1c (ret : R → Option β) (x0 x1 : ByteArray) : Option β := (bif (decide ((x1.size : Int) ≥ (20 : Int))) then (ret ((0 : Int), (7 : Int))) else ((s2 x0 x1 (0 : Int) (List.map (fun b => ((UInt8.toNat b) : Int)) (Array.toList (ByteArray.data x1))) ((List.length (List.map (fun b => ((UInt8.toNat b) : Int)) (Array.toList (ByteArray.data x1)))) : Int) (0 : Int)).bind ret))
def s2c (ret : R → Option β) (x0 x1 : ByteArray) (x2 : Int) (x3 : List Int) (x4 x5 : Int) : Option β := (bif (decide (x5 < x4)) then (bif ((decide ((0 : Int) ≤ x5)) && (decide (x5 < (x3.length : Int)))) then (bif (decide ((elem (Ty.int IntKind.u8) x3 x5) < (48 : Int))) then ((s3 x0 x1 x2 (elem (Ty.int IntKind.u8) x3 x5) x3 x4 x5 true).bind ret) else ((s3 x0 x1 x2 (elem (Ty.int IntKind.u8) x3 x5) x3 x4 x5 (decide ((elem (Ty.int IntKind.u8) x3 x5) > (57 : Int)))).bind ret)) else none) else (bif (decide ((x1.size : Int) < (x0.size : Int))) then ((g81 (IntKind.wrap .i64 (IntKind.wrap .u64 ((0 : Int) - x2)))).bind fun r0 => (bif (!(r0.toList == x0.toList)) then (ret ((0 : Int), (7 : Int))) else (ret ((IntKind.wrap .i64 (IntKind.wrap .u64 ((0 : Int) - x2))), (0 : Int))))) else ((g81 (IntKind.wrap .i64 x2)).bind fun r1 => (bif (!(r1.toList == x0.toList)) then (ret ((0 : Int), (7 : Int))) else (ret ((IntKind.wrap .i64 x2), (0 : Int)))))))
def s3c (ret : R → Option β) (x0 x1 : ByteArray) (x2 x3 : Int) (x4 : List Int) (x5 x6 : Int) (x7 : Bool) : Option β := (bif x7 then (ret ((0 : Int), (7 : Int))) else ((s4 x0 x1 x2 x3 x4 x5 x6).bind ret))
def s4c (ret : R → Option β) (x0 x1 : ByteArray) (x2 x3 : Int) (x4 : List Int) (x5 x6 : Int) : Option β := ((s5 x0 x1 (IntKind.wrap .u64 ((IntKind.wrap .u64 (x2 * (10 : Int))) + (IntKind.wrap .u64 (IntKind.wrap .u8 (x3 - (48 : Int)))))) x4 x5 x6).bind ret)
def s5c (ret : R → Option β) (x0 x1 : ByteArray) (x2 : Int) (x3 : List Int) (x4 x5 : Int) : Option β := ((s2 x0 x1 x2 x3 x4 (IntKind.wrap .i64 (x5 + (1 : Int)))).bind ret)
variable {g81} {s0} {s1} {s2} {s3} {s4} {s5}
theorem ev : EvA (env g81 s0 s1 s2 s3 s4 s5) [] [0] e (A (c s0 some)) := fun x y => Eq.trans (b := (A (c s0 fun r => some (e r))).G x y) (by kernel_rfl) (by simp only [A, c, bo, so, oa, os, on, ofs])
theorem s0_ev : EvA (env g81 s0 s1 s2 s3 s4 s5) [1, 0, 1, 1] [0, 4, 16] e (A_0 (s0c s1 some)) := fun x y => Eq.trans (b := (A_0 (s0c s1 fun r => some (e r))).G x y) (by kernel_rfl) (by simp only [A_0, s0c, bo, so, oa, os, on, ofs])
theorem s1_ev : EvA (env g81 s0 s1 s2 s3 s4 s5) [1, 1, 1] [0, 4] e (A_1 (s1c s2 some)) := fun x y => Eq.trans (b := (A_1 (s1c s2 fun r => some (e r))).G x y) (by kernel_rfl) (by simp only [A_1, s1c, bo, so, oa, os, on, ofs])
theorem s2_ev : EvA (env g81 s0 s1 s2 s3 s4 s5) [4, 1, 0, 1, 1, 1, 1, 1] [0, 4, 5, 23, 24, 25] e (A_2 (s2c g81 s3 some)) := fun x y => Eq.trans (b := (A_2 (s2c g81 s3 fun r => some (e r))).G x y) (by kernel_rfl) (by simp only [A_2, s2c, bo, so, oa, os, on, ofs])
theorem s3_ev : EvA (env g81 s0 s1 s2 s3 s4 s5) [1, 0, 1, 4, 0, 1, 1, 5, 4, 1, 0, 1, 1, 1, 1, 1] [0, 4, 5, 7, 23, 24, 25, 34] e (A_3 (s3c s4 some)) := fun x y => Eq.trans (b := (A_3 (s3c s4 fun r => some (e r))).G x y) (by kernel_rfl) (by simp only [A_3, s3c, bo, so, oa, os, on, ofs])
theorem s4_ev : EvA (env g81 s0 s1 s2 s3 s4 s5) [1, 1, 4, 0, 1, 1, 5, 4, 1, 0, 1, 1, 1, 1, 1] [0, 4, 5, 7, 23, 24, 25] e (A_4 (s4c s5 some)) := fun x y => Eq.trans (b := (A_4 (s4c s5 fun r => some (e r))).G x y) (by kernel_rfl) (by simp only [A_4, s4c, bo, so, oa, os, on, ofs])
theorem s5_ev : EvA (env g81 s0 s1 s2 s3 s4 s5) [1, 1, 1, 5, 4, 1, 0, 1, 1, 1, 1, 1] [0, 4, 5, 23, 24, 25] e (A_5 (s5c s2 some)) := fun x y => Eq.trans (b := (A_5 (s5c s2 fun r => some (e r))).G x y) (by kernel_rfl) (by simp only [A_5, s5c, bo, so, oa, os, on, ofs])
end
mutual
def s0 : Nat → S0 R
 | 0, _, _, _ => none
 | k + 1, x0, x1, x2 => s0c (s1 k) some x0 x1 x2
def s1 : Nat → S1 R
 | 0, _, _ => none
 | k + 1, x0, x1 => s1c (s2 k) some x0 x1
def s2 : Nat → S2 R
 | 0, _, _, _, _, _, _ => none
 | k + 1, x0, x1, x2, x3, x4, x5 => s2c (convert_Digits.f k) (s3 k) some x0 x1 x2 x3 x4 x5
def s3 : Nat → S3 R
 | 0, _, _, _, _, _, _, _, _ => none
 | k + 1, x0, x1, x2, x3, x4, x5, x6, x7 => s3c (s4 k) some x0 x1 x2 x3 x4 x5 x6 x7
def s4 : Nat → S4 R
 | 0, _, _, _, _, _, _, _ => none
 | k + 1, x0, x1, x2, x3, x4, x5, x6 => s4c (s5 k) some x0 x1 x2 x3 x4 x5 x6
def s5 : Nat → S5 R
 | 0, _, _, _, _, _, _ => none
 | k + 1, x0, x1, x2, x3, x4, x5 => s5c (s2 k) some x0 x1 x2 x3 x4 x5
end
def f (k : Nat) (a0 : ByteArray) : Option R := c (s0 k) some a0
noncomputable abbrev E (k : Nat) : FEnv := env (convert_Digits.f k) (s0 k) (s1 k) (s2 k) (s3 k) (s4 k) (s5 k)
theorem hE (k : Nat) : EnvOK (E k).toEnv := ctsOK (Lc (convert_Digits.ok k) L0)
theorem sk : ∀ k, ∀ s ∈ [sg0 (s0 k), sg1 (s1 k), sg2 (s2 k), sg3 (s3 k), sg4 (s4 k), sg5 (s5 k)], SegB prog f83 0 s
 | 0 => (Lc (sn (Lc (fun _ _ => rfl) L0)) (Lc (sn (Lc (fun _ _ => rfl) L0)) (Lc (sn (Lc (fun _ _ => rfl) L0)) (Lc (sn (Lc (fun _ _ => rfl) L0)) (Lc (sn (Lc (fun _ _ => rfl) L0)) (Lc (sn (Lc (fun _ _ => rfl) L0)) L0))))))
 | k + 1 => (Lc (sg_ok (hE k) (sk k) (Lc s0_ev L0)) (Lc (sg_ok (hE k) (sk k) (Lc s1_ev L0)) (Lc (sg_ok (hE k) (sk k) (Lc s2_ev L0)) (Lc (sg_ok (hE k) (sk k) (Lc s3_ev L0)) (Lc (sg_ok (hE k) (sk k) (Lc s4_ev L0)) (Lc (sg_ok (hE k) (sk k) (Lc s5_ev L0)) L0))))))
theorem ok (k : Nat) : CtOK prog 83 (ct (f k)) := fn_ok func83 rfl (by decide) (hE k) (sk k) (Lc ev L0)
end convert_Number
namespace convert_ofText
abbrev R : Type := (Int × Int × Int × ByteArray) ⊕ Int
def e (r : R) : Res := Sum.elim (fun r =>  ⟨.v (.one (.fn 78 [(0, 0)])), [some (.box [(.d (.int .i64) r.1), (.d (.int .i64) r.2.1), (.d (.int .u64) r.2.2.1), (.d .str r.2.2.2)])]⟩) (fun r =>  ⟨.v (.one (.fn 77 [(0, 0)])), [some (.box [(.d (.int .i64) r)])]⟩) r
abbrev T (δ : Type) : Type := ByteArray → Int → Option δ
abbrev A {δ : Type} (g : T δ) : Arm δ := ⟨[.d .str, .d (.int .i64)], [], fun x y => g x.1 x.2.1⟩
abbrev G : Type := T R
def ek {β : Type} (r : R) (K : Res → Option β) : Option β := Sum.elim (fun r => K ⟨.v (.one (.fn 78 [(0, 0)])), [some (.box [(.d (.int .i64) r.1), (.d (.int .i64) r.2.1), (.d (.int .u64) r.2.2.1), (.d .str r.2.2.2)])]⟩) (fun r => K ⟨.v (.one (.fn 77 [(0, 0)])), [some (.box [(.d (.int .i64) r)])]⟩) r
theorem hk {β : Type} (r : R) (K : Res → Option β) : ek r K = K (e r) := by rcases r with _ | _ <;> rfl
def ct (g : G) : Ct := mkCtS 0 [] [A g] e ek hk
abbrev S0 (δ : Type) : Type := ByteArray → Int → ByteArray → ByteArray → Int → Option δ
abbrev A_0 {δ : Type} (s : S0 δ) : Arm δ := ⟨[.d .str, .d (.int .i64), .v (.agg [.g .str, .g .str]), .d (.int .i64)], [], fun x y => s x.1 x.2.1 x.2.2.1.1 x.2.2.1.2.1 x.2.2.2.1⟩
def sg0 (s : S0 R) : Seg := mkSg [4, 1, 0, 2, 1, 3, 1, 4, 1, 0, 1] [] [0, 1, 18, 19] [A_0 s] e
section
variable {β : Type} (g52 : convert_refuse.G) (g53 : convert_give.G) (g83 : convert_Number.G) (s0 : S0 R)
noncomputable abbrev env : FEnv := mkEnv prog f59 [(52, convert_refuse.ct g52), (53, convert_give.ct g53), (83, convert_Number.ct g83)] 0 [] [sg0 s0]
def c (ret : R → Option β) (a0 : ByteArray) (a1 : Int) : Option β := (bif (a1 == (4 : Int)) then ((g53 a1 (0 : Int) (0 : Int) a0).bind fun r0 => (ret (.inl (r0.1, r0.2.1, r0.2.2.1, r0.2.2.2)))) else (bif (a1 == (1 : Int)) then ((s0 a0 a1 (ByteArray.mk (List.toArray [102, 97, 108, 115, 101])) (ByteArray.mk (List.toArray [116, 114, 117, 101])) (0 : Int)).bind ret) else ((g83 a0).bind fun r1 => (bif (r1.2 != (0 : Int)) then ((g52 r1.2).bind fun r2 => (ret (.inr (r2)))) else ((g53 a1 r1.1 (0 : Int) (ByteArray.mk (List.toArray []))).bind fun r3 => (ret (.inl (r3.1, r3.2.1, r3.2.2.1, r3.2.2.2))))))))
def s0c (ret : R → Option β) (x0 : ByteArray) (x1 : Int) (x2 x3 : ByteArray) (x4 : Int) : Option β := (bif (decide (x4 < (2 : Int))) then (bif ((decide ((0 : Int) ≤ x4)) && (decide (x4 < (2 : Int)))) then (bif ((ByteArray.toList (bif (decide (x4 = (0 : Int))) then x2 else x3)) == x0.toList) then ((g53 x1 x4 (0 : Int) (ByteArray.mk (List.toArray []))).bind fun r0 => (ret (.inl (r0.1, r0.2.1, r0.2.2.1, r0.2.2.2)))) else ((s0 x0 x1 x2 x3 (IntKind.wrap .i64 (x4 + (1 : Int)))).bind ret)) else none) else ((g52 (7 : Int)).bind fun r1 => (ret (.inr (r1)))))
variable {g52} {g53} {g83} {s0}
theorem ev : EvA (env g52 g53 g83 s0) [] [0, 1] e (A (c g52 g53 g83 s0 some)) := fun x y => Eq.trans (b := (A (c g52 g53 g83 s0 fun r => some (e r))).G x y) (by kernel_rfl) (by simp only [A, c, bo, so, oa, os, on, ofs])
theorem s0_ev : EvA (env g52 g53 g83 s0) [4, 1, 0, 2, 1, 3, 1, 4, 1, 0, 1] [0, 1, 18, 19] e (A_0 (s0c g52 g53 s0 some)) := fun x y => Eq.trans (b := (A_0 (s0c g52 g53 s0 fun r => some (e r))).G x y) (by kernel_rfl) (by simp only [A_0, s0c, bo, so, oa, os, on, ofs])
end
def s0 : Nat → S0 R
 | 0, _, _, _, _, _ => none
 | k + 1, x0, x1, x2, x3, x4 => s0c (convert_refuse.f k) (convert_give.f k) (s0 k) some x0 x1 x2 x3 x4
def f (k : Nat) (a0 : ByteArray) (a1 : Int) : Option R := c (convert_refuse.f k) (convert_give.f k) (convert_Number.f k) (s0 k) some a0 a1
noncomputable abbrev E (k : Nat) : FEnv := env (convert_refuse.f k) (convert_give.f k) (convert_Number.f k) (s0 k)
theorem hE (k : Nat) : EnvOK (E k).toEnv := ctsOK (Lc (convert_refuse.ok k) (Lc (convert_give.ok k) (Lc (convert_Number.ok k) L0)))
theorem sk : ∀ k, ∀ s ∈ [sg0 (s0 k)], SegB prog f59 0 s
 | 0 => (Lc (sn (Lc (fun _ _ => rfl) L0)) L0)
 | k + 1 => (Lc (sg_ok (hE k) (sk k) (Lc s0_ev L0)) L0)
theorem ok (k : Nat) : CtOK prog 59 (ct (f k)) := fn_okS hk (fn_ok func59 rfl (by decide) (hE k) (sk k) (Lc ev L0))
end convert_ofText
namespace convert_refuse_1
abbrev R : Type := Int × Int × Int × ByteArray × Int × Int
def e (r : R) : Res := ⟨.tup [(.agg [(.d (.int .i64) r.1), (.d (.int .i64) r.2.1), (.d (.int .u64) r.2.2.1), (.d .str r.2.2.2.1)]), (.one (.d (.int .i64) r.2.2.2.2.1))], [some (.box [(.d (.int .i64) r.2.2.2.2.2)])]⟩
abbrev T (δ : Type) : Type := Int → Option δ
abbrev A {δ : Type} (g : T δ) : Arm δ := ⟨[.k (.ptr 0 0)], [.box [.g (.int .i64)]], fun x y => g y.1.1⟩
abbrev G : Type := T R
def ct (g : G) : Ct := mkCt 1 [] [A g] e
section
variable {β : Type} 
noncomputable abbrev env : FEnv := mkEnv prog f77 [] 1 [] []
def c (ret : R → Option β) (a0 : Int) : Option β := (ret ((0 : Int), (0 : Int), (0 : Int), (ByteArray.mk (List.toArray [])), a0, a0))
theorem ev : EvA (env) [] [0] e (A (c some)) := fun x y => Eq.trans (b := (A (c fun r => some (e r))).G x y) (by kernel_rfl) (by simp only [A, c, bo, so, oa, os, on, ofs])
end
def f (k : Nat) (a0 : Int) : Option R := c  some a0
noncomputable abbrev E (k : Nat) : FEnv := env  
theorem hE (k : Nat) : EnvOK (E k).toEnv := ctsOK L0
theorem ok (k : Nat) : CtOK prog 77 (ct (f k)) := fn_ok func77 rfl (by decide) (hE k) L0 (Lc ev L0)
end convert_refuse_1
namespace convert_give_1
abbrev R : Type := Int × Int × Int × ByteArray × Int × Int × Int × Int × ByteArray
def e (r : R) : Res := ⟨.tup [(.agg [(.d (.int .i64) r.1), (.d (.int .i64) r.2.1), (.d (.int .u64) r.2.2.1), (.d .str r.2.2.2.1)]), (.one (.d (.int .i64) r.2.2.2.2.1))], [some (.box [(.d (.int .i64) r.2.2.2.2.2.1), (.d (.int .i64) r.2.2.2.2.2.2.1), (.d (.int .u64) r.2.2.2.2.2.2.2.1), (.d .str r.2.2.2.2.2.2.2.2)])]⟩
abbrev T (δ : Type) : Type := Int → Int → Int → ByteArray → Option δ
abbrev A {δ : Type} (g : T δ) : Arm δ := ⟨[.k (.ptr 0 0)], [.box [.g T_api_Value]], fun x y => g y.1.1.1 y.1.1.2.1 y.1.1.2.2.1 y.1.1.2.2.2.1⟩
abbrev G : Type := T R
def ct (g : G) : Ct := mkCt 1 [] [A g] e
section
variable {β : Type} 
noncomputable abbrev env : FEnv := mkEnv prog f78 [] 1 [] []
def c (ret : R → Option β) (a0 a1 a2 : Int) (a3 : ByteArray) : Option β := (ret (a0, a1, a2, a3, (0 : Int), a0, a1, a2, a3))
theorem ev : EvA (env) [] [0] e (A (c some)) := fun x y => Eq.trans (b := (A (c fun r => some (e r))).G x y) (by kernel_rfl) (by simp only [A, c, bo, so, oa, os, on, ofs])
end
def f (k : Nat) (a0 a1 a2 : Int) (a3 : ByteArray) : Option R := c  some a0 a1 a2 a3
noncomputable abbrev E (k : Nat) : FEnv := env  
theorem hE (k : Nat) : EnvOK (E k).toEnv := ctsOK L0
theorem ok (k : Nat) : CtOK prog 78 (ct (f k)) := fn_ok func78 rfl (by decide) (hE k) L0 (Lc ev L0)
end convert_give_1
namespace convert_To
abbrev R : Type := Int × Int × Int × ByteArray × Int
def e (r : R) : Res := ⟨.tup [(.agg [(.d (.int .i64) r.1), (.d (.int .i64) r.2.1), (.d (.int .u64) r.2.2.1), (.d .str r.2.2.2.1)]), (.one (.d (.int .i64) r.2.2.2.2))], []⟩
abbrev T (δ : Type) : Type := Int → Int → Int → ByteArray → Int → Option δ
abbrev A {δ : Type} (g : T δ) : Arm δ := ⟨[.s T_api_Value, .d (.int .i64)], [], fun x y => g x.1.1.1 x.1.1.2.1 x.1.1.2.2.1 x.1.1.2.2.2.1 x.2.1⟩
abbrev G : Type := T R
def ct (g : G) : Ct := mkCt 0 [] [A g] e
abbrev S0 (δ : Type) : Type := Int → Bool → Int → Int → Int → ByteArray → Int → Int → Int → ByteArray → Int → Option δ
abbrev A_0 {δ : Type} (s : S0 δ) : Arm δ := ⟨[.d (.int .i64), .k (.ptr 0 0), .k (.ptr 1 0), .k (.fn 77 [(2, 0)]), .d .bool], [.box [.g T_api_Value], .box [.g T_api_Value], .box [.g (.int .i64)]], fun x y => s x.1 x.2.2.2.2.1 y.1.1.1 y.1.1.2.1 y.1.1.2.2.1 y.1.1.2.2.2.1 y.2.1.1.1 y.2.1.1.2.1 y.2.1.1.2.2.1 y.2.1.1.2.2.2.1 y.2.2.1.1⟩
abbrev S1 (δ : Type) : Type := Int → Bool → Int → Int → Int → ByteArray → Int → Int → Int → ByteArray → Int → Option δ
abbrev A_1 {δ : Type} (s : S1 δ) : Arm δ := ⟨[.d (.int .i64), .k (.ptr 0 0), .k (.ptr 1 0), .k (.fn 77 [(2, 0)]), .d .bool], [.box [.g T_api_Value], .box [.g T_api_Value], .box [.g (.int .i64)]], fun x y => s x.1 x.2.2.2.2.1 y.1.1.1 y.1.1.2.1 y.1.1.2.2.1 y.1.1.2.2.2.1 y.2.1.1.1 y.2.1.1.2.1 y.2.1.1.2.2.1 y.2.1.1.2.2.2.1 y.2.2.1.1⟩
def sg0 (s : S0 R) : Seg := mkSg [1, 4, 0, 1, 1, 1] [] [1, 2, 4, 7, 19] [A_0 s] e
def sg1 (s : S1 R) : Seg := mkSg [1, 3, 1, 4, 0, 1, 1, 1] [] [1, 2, 4, 7, 26] [A_1 s] e
section
variable {β : Type} (g51 : values_Check.G) (g52 : convert_refuse.G) (g53 : convert_give.G) (g54 : convert_Can.G) (g55 : convert_ofBool.G) (g56 : convert_ofInt.G) (g57 : convert_ofReal.G) (g58 : convert_ofBytes.G) (g59 : convert_ofText.G) (g77 : convert_refuse_1.G) (g78 : convert_give_1.G) (s0 : S0 R) (s1 : S1 R)
noncomputable abbrev env : FEnv := mkEnv prog f30 [(51, values_Check.ct g51), (52, convert_refuse.ct g52), (53, convert_give.ct g53), (54, convert_Can.ct g54), (55, convert_ofBool.ct g55), (56, convert_ofInt.ct g56), (57, convert_ofReal.ct g57), (58, convert_ofBytes.ct g58), (59, convert_ofText.ct g59), (77, convert_refuse_1.ct g77), (78, convert_give_1.ct g78)] 0 [] [sg0 s0, sg1 s1]
def c (ret : R → Option β) (a0 a1 a2 : Int) (a3 : ByteArray) (a4 : Int) : Option β := ((g51 a0 a1 a2 a3).bind fun r0 => (bif (r0 != (0 : Int)) then (ret ((0 : Int), (0 : Int), (0 : Int), (ByteArray.mk (List.toArray [])), r0)) else ((g52 (5 : Int)).bind fun r1 => (bif (decide (a4 < (1 : Int))) then ((s0 a4 true a0 a1 a2 a3 (0 : Int) (0 : Int) (0 : Int) (ByteArray.mk (List.toArray [])) r1).bind ret) else ((s0 a4 (decide (a4 > (5 : Int))) a0 a1 a2 a3 (0 : Int) (0 : Int) (0 : Int) (ByteArray.mk (List.toArray [])) r1).bind ret)))))
def s0c (ret : R → Option β) (x0 : Int) (x1 : Bool) (x2 x3 x4 : Int) (x5 : ByteArray) (x6 x7 x8 : Int) (x9 : ByteArray) (x10 : Int) : Option β := (bif x1 then ((g77 x10).bind fun r0 => (ret (r0.1, r0.2.1, r0.2.2.1, r0.2.2.2.1, r0.2.2.2.2.1))) else (bif (x2 == (0 : Int)) then ((s1 x0 true x2 x3 x4 x5 x6 x7 x8 x9 x10).bind ret) else ((s1 x0 (x2 == x0) x2 x3 x4 x5 x6 x7 x8 x9 x10).bind ret)))
def s1c (ret : R → Option β) (x0 : Int) (x1 : Bool) (x2 x3 x4 : Int) (x5 : ByteArray) (x6 x7 x8 : Int) (x9 : ByteArray) (x10 : Int) : Option β := (bif x1 then ((g53 x2 x3 x4 x5).bind fun r0 => ((g78 r0.1 r0.2.1 r0.2.2.1 r0.2.2.2).bind fun r1 => (ret (r1.1, r1.2.1, r1.2.2.1, r1.2.2.2.1, r1.2.2.2.2.1)))) else ((g54 x2 x0).bind fun r2 => (bif (!r2) then ((g77 x10).bind fun r3 => (ret (r3.1, r3.2.1, r3.2.2.1, r3.2.2.2.1, r3.2.2.2.2.1))) else (bif (x2 == (1 : Int)) then ((g55 x3 x0).bind fun r4 => (Sum.elim (fun r5 => ((g78 r5.1 r5.2.1 r5.2.2.1 r5.2.2.2).bind fun r6 => (ret (r6.1, r6.2.1, r6.2.2.1, r6.2.2.2.1, r6.2.2.2.2.1)))) (fun r7 => ((g77 r7).bind fun r8 => (ret (r8.1, r8.2.1, r8.2.2.1, r8.2.2.2.1, r8.2.2.2.2.1)))) r4)) else (bif (x2 == (2 : Int)) then ((g56 x3 x0).bind fun r9 => (Sum.elim (fun r10 => ((g77 r10).bind fun r11 => (ret (r11.1, r11.2.1, r11.2.2.1, r11.2.2.2.1, r11.2.2.2.2.1)))) (fun r12 => ((g78 r12.1 r12.2.1 r12.2.2.1 r12.2.2.2).bind fun r13 => (ret (r13.1, r13.2.1, r13.2.2.1, r13.2.2.2.1, r13.2.2.2.2.1)))) r9)) else (bif (x2 == (3 : Int)) then ((g57 x4 x0).bind fun r14 => (Sum.elim (fun r15 => ((g78 r15.1 r15.2.1 r15.2.2.1 r15.2.2.2).bind fun r16 => (ret (r16.1, r16.2.1, r16.2.2.1, r16.2.2.2.1, r16.2.2.2.2.1)))) (fun r17 => ((g77 r17).bind fun r18 => (ret (r18.1, r18.2.1, r18.2.2.1, r18.2.2.2.1, r18.2.2.2.2.1)))) r14)) else (bif (x2 == (4 : Int)) then ((g58 x5 x0).bind fun r19 => (Sum.elim (fun r20 => ((g77 r20).bind fun r21 => (ret (r21.1, r21.2.1, r21.2.2.1, r21.2.2.2.1, r21.2.2.2.2.1)))) (fun r22 => ((g78 r22.1 r22.2.1 r22.2.2.1 r22.2.2.2).bind fun r23 => (ret (r23.1, r23.2.1, r23.2.2.1, r23.2.2.2.1, r23.2.2.2.2.1)))) r19)) else ((g59 x5 x0).bind fun r24 => (Sum.elim (fun r25 => ((g78 r25.1 r25.2.1 r25.2.2.1 r25.2.2.2).bind fun r26 => (ret (r26.1, r26.2.1, r26.2.2.1, r26.2.2.2.1, r26.2.2.2.2.1)))) (fun r27 => ((g77 r27).bind fun r28 => (ret (r28.1, r28.2.1, r28.2.2.1, r28.2.2.2.1, r28.2.2.2.2.1)))) r24)))))))))
variable {g51} {g52} {g53} {g54} {g55} {g56} {g57} {g58} {g59} {g77} {g78} {s0} {s1}
theorem ev : EvA (env g51 g52 g53 g54 g55 g56 g57 g58 g59 g77 g78 s0 s1) [] [0, 1] e (A (c g51 g52 s0 some)) := fun x y => Eq.trans (b := (A (c g51 g52 s0 fun r => some (e r))).G x y) (by kernel_rfl) (by simp only [A, c, bo, so, oa, os, on, ofs])
theorem s0_ev : EvA (env g51 g52 g53 g54 g55 g56 g57 g58 g59 g77 g78 s0 s1) [1, 4, 0, 1, 1, 1] [1, 2, 4, 7, 19] e (A_0 (s0c g77 s1 some)) := fun x y => Eq.trans (b := (A_0 (s0c g77 s1 fun r => some (e r))).G x y) (by kernel_rfl) (by simp only [A_0, s0c, bo, so, oa, os, on, ofs])
theorem s1_ev : EvA (env g51 g52 g53 g54 g55 g56 g57 g58 g59 g77 g78 s0 s1) [1, 3, 1, 4, 0, 1, 1, 1] [1, 2, 4, 7, 26] e (A_1 (s1c g53 g54 g55 g56 g57 g58 g59 g77 g78 some)) := fun x y => Eq.trans (b := (A_1 (s1c g53 g54 g55 g56 g57 g58 g59 g77 g78 fun r => some (e r))).G x y) (by kernel_rfl) (by simp only [A_1, s1c, bo, so, oa, os, on, ofs])
end
mutual
def s0 : Nat → S0 R
 | 0, _, _, _, _, _, _, _, _, _, _, _ => none
 | k + 1, x0, x1, x2, x3, x4, x5, x6, x7, x8, x9, x10 => s0c (convert_refuse_1.f k) (s1 k) some x0 x1 x2 x3 x4 x5 x6 x7 x8 x9 x10
def s1 : Nat → S1 R
 | 0, _, _, _, _, _, _, _, _, _, _, _ => none
 | k + 1, x0, x1, x2, x3, x4, x5, x6, x7, x8, x9, x10 => s1c (convert_give.f k) (convert_Can.f k) (convert_ofBool.f k) (convert_ofInt.f k) (convert_ofReal.f k) (convert_ofBytes.f k) (convert_ofText.f k) (convert_refuse_1.f k) (convert_give_1.f k) some x0 x1 x2 x3 x4 x5 x6 x7 x8 x9 x10
end
def f (k : Nat) (a0 a1 a2 : Int) (a3 : ByteArray) (a4 : Int) : Option R := c (values_Check.f k) (convert_refuse.f k) (s0 k) some a0 a1 a2 a3 a4
noncomputable abbrev E (k : Nat) : FEnv := env (values_Check.f k) (convert_refuse.f k) (convert_give.f k) (convert_Can.f k) (convert_ofBool.f k) (convert_ofInt.f k) (convert_ofReal.f k) (convert_ofBytes.f k) (convert_ofText.f k) (convert_refuse_1.f k) (convert_give_1.f k) (s0 k) (s1 k)
theorem hE (k : Nat) : EnvOK (E k).toEnv := ctsOK (Lc (values_Check.ok k) (Lc (convert_refuse.ok k) (Lc (convert_give.ok k) (Lc (convert_Can.ok k) (Lc (convert_ofBool.ok k) (Lc (convert_ofInt.ok k) (Lc (convert_ofReal.ok k) (Lc (convert_ofBytes.ok k) (Lc (convert_ofText.ok k) (Lc (convert_refuse_1.ok k) (Lc (convert_give_1.ok k) L0)))))))))))
theorem sk : ∀ k, ∀ s ∈ [sg0 (s0 k), sg1 (s1 k)], SegB prog f30 0 s
 | 0 => (Lc (sn (Lc (fun _ _ => rfl) L0)) (Lc (sn (Lc (fun _ _ => rfl) L0)) L0))
 | k + 1 => (Lc (sg_ok (hE k) (sk k) (Lc s0_ev L0)) (Lc (sg_ok (hE k) (sk k) (Lc s1_ev L0)) L0))
theorem ok (k : Nat) : CtOK prog 30 (ct (f k)) := fn_ok func30 rfl (by decide) (hE k) (sk k) (Lc ev L0)
end convert_To
namespace transform_parts
abbrev R : Type := (List (List D_api_Value))
def e (r : R) : Res := ⟨.v (.one (.d (.sl (.sl T_api_Value)) r)), []⟩
abbrev T (δ : Type) : Type := ByteArray → Int → (List D_api_Col) → D_api_Change → (List D_api_Value) → Option δ
abbrev A {δ : Type} (g : T δ) : Arm δ := ⟨[.s T_api_Table, .s T_api_Change, .d (.sl T_api_Value)], [], fun x y => g x.1.1.1 x.1.1.2.1 x.1.1.2.2.1 x.2.1.1 x.2.2.1⟩
abbrev G : Type := T R
def ct (g : G) : Ct := mkCt 0 [] [A g] e
abbrev S0 (δ : Type) : Type := (List D_api_Value) → Int → Int → ByteArray → Int → (List D_api_Col) → D_api_Change → (List D_api_Value) → (List D_api_Value) → Option δ
abbrev A_0 {δ : Type} (s : S0 δ) : Arm δ := ⟨[.k (.ptr 0 0), .k (.ptr 1 0), .k (.slb 2 2), .d (.sl T_api_Value), .d (.int .i64), .d (.int .i64)], [.box [.g T_api_Table], .box [.g T_api_Change], .box [.c (.own 3), .c (.own 4)], .own T_api_Value false, .own T_api_Value false], fun x y => s x.2.2.2.1 x.2.2.2.2.1 x.2.2.2.2.2.1 y.1.1.1 y.1.1.2.1 y.1.1.2.2.1 y.2.1.1 y.2.2.2.1 y.2.2.2.2.1⟩
def sg0 (s : S0 R) : Seg := mkSg [4, 1, 0, 1, 1] [.cellOwn 7 0 T_api_Value, .cellOwn 7 1 T_api_Value] [3, 4, 7, 13, 14, 15] [A_0 s] e
section
variable {β : Type} (g25 : slices_Contains_string_string.G) (s0 : S0 R)
noncomputable abbrev env : FEnv := mkEnv prog f31 [(25, slices_Contains_string_string.ct g25)] 0 [] [sg0 s0]
def c (ret : R → Option β) (a0 : ByteArray) (a1 : Int) (a2 : List D_api_Col) (a3 : D_api_Change) (a4 : List D_api_Value) : Option β := ((s0 a4 (a4.length : Int) (0 : Int) a0 a1 a2 a3 [] []).bind ret)
def s0c (ret : R → Option β) (x0 : List D_api_Value) (x1 x2 : Int) (x3 : ByteArray) (x4 : Int) (x5 : List D_api_Col) (x6 : D_api_Change) (x7 x8 : List D_api_Value) : Option β := (bif (decide (x2 < x1)) then (bif ((decide ((0 : Int) ≤ x2)) && (decide (x2 < (x0.length : Int)))) then (bif ((decide ((0 : Int) ≤ x2)) && (decide (x2 < (x5.length : Int)))) then ((g25 x6.2.2.2.2.2.2.2.1 (elem T_api_Col x5 x2).1).bind fun r0 => (bif (decide (x2 < x4)) then (bif (decide (((x7.length + (1 : Nat)) * (40 : Nat)) ≤ (35184372088832 : Nat))) then (bif (decide (x2 < x4)) then (bif (decide (((x8.length + (1 : Nat)) * (40 : Nat)) ≤ (35184372088832 : Nat))) then ((s0 x0 x1 (IntKind.wrap .i64 (x2 + (1 : Int))) x3 x4 x5 x6 (x7 ++ [(elem T_api_Value x0 x2)]) (x8 ++ [(elem T_api_Value x0 x2)])).bind ret) else none) else (bif (r0 == false) then (bif (decide (((x8.length + (1 : Nat)) * (40 : Nat)) ≤ (35184372088832 : Nat))) then ((s0 x0 x1 (IntKind.wrap .i64 (x2 + (1 : Int))) x3 x4 x5 x6 (x7 ++ [(elem T_api_Value x0 x2)]) (x8 ++ [(elem T_api_Value x0 x2)])).bind ret) else none) else ((s0 x0 x1 (IntKind.wrap .i64 (x2 + (1 : Int))) x3 x4 x5 x6 (x7 ++ [(elem T_api_Value x0 x2)]) x8).bind ret))) else none) else (bif (r0 == true) then (bif (decide (((x7.length + (1 : Nat)) * (40 : Nat)) ≤ (35184372088832 : Nat))) then (bif (decide (x2 < x4)) then (bif (decide (((x8.length + (1 : Nat)) * (40 : Nat)) ≤ (35184372088832 : Nat))) then ((s0 x0 x1 (IntKind.wrap .i64 (x2 + (1 : Int))) x3 x4 x5 x6 (x7 ++ [(elem T_api_Value x0 x2)]) (x8 ++ [(elem T_api_Value x0 x2)])).bind ret) else none) else (bif (r0 == false) then (bif (decide (((x8.length + (1 : Nat)) * (40 : Nat)) ≤ (35184372088832 : Nat))) then ((s0 x0 x1 (IntKind.wrap .i64 (x2 + (1 : Int))) x3 x4 x5 x6 (x7 ++ [(elem T_api_Value x0 x2)]) (x8 ++ [(elem T_api_Value x0 x2)])).bind ret) else none) else ((s0 x0 x1 (IntKind.wrap .i64 (x2 + (1 : Int))) x3 x4 x5 x6 (x7 ++ [(elem T_api_Value x0 x2)]) x8).bind ret))) else none) else (bif (decide (x2 < x4)) then (bif (decide (((x8.length + (1 : Nat)) * (40 : Nat)) ≤ (35184372088832 : Nat))) then ((s0 x0 x1 (IntKind.wrap .i64 (x2 + (1 : Int))) x3 x4 x5 x6 x7 (x8 ++ [(elem T_api_Value x0 x2)])).bind ret) else none) else (bif (r0 == false) then (bif (decide (((x8.length + (1 : Nat)) * (40 : Nat)) ≤ (35184372088832 : Nat))) then ((s0 x0 x1 (IntKind.wrap .i64 (x2 + (1 : Int))) x3 x4 x5 x6 x7 (x8 ++ [(elem T_api_Value x0 x2)])).bind ret) else none) else ((s0 x0 x1 (IntKind.wrap .i64 (x2 + (1 : Int))) x3 x4 x5 x6 x7 x8).bind ret)))))) else none) else none) else (ret ([x7, x8])))
variable {g25} {s0}
theorem ev : EvA (env g25 s0) [] [0, 1, 2] e (A (c s0 some)) := fun x y => Eq.trans (b := (A (c s0 fun r => some (e r))).G x y) (by kernel_rfl) (by simp only [A, c, bo, so, oa, os, on, ofs])
theorem s0_ev : EvA (env g25 s0) [4, 1, 0, 1, 1] [3, 4, 7, 13, 14, 15] e (A_0 (s0c g25 s0 some)) := fun x y => Eq.trans (b := (A_0 (s0c g25 s0 fun r => some (e r))).G x y) (by kernel_rfl) (by simp only [A_0, s0c, bo, so, oa, os, on, ofs])
end
def s0 : Nat → S0 R
 | 0, _, _, _, _, _, _, _, _, _ => none
 | k + 1, x0, x1, x2, x3, x4, x5, x6, x7, x8 => s0c (slices_Contains_string_string.f k) (s0 k) some x0 x1 x2 x3 x4 x5 x6 x7 x8
def f (k : Nat) (a0 : ByteArray) (a1 : Int) (a2 : List D_api_Col) (a3 : D_api_Change) (a4 : List D_api_Value) : Option R := c (s0 k) some a0 a1 a2 a3 a4
noncomputable abbrev E (k : Nat) : FEnv := env (slices_Contains_string_string.f k) (s0 k)
theorem hE (k : Nat) : EnvOK (E k).toEnv := ctsOK (Lc (slices_Contains_string_string.ok k) L0)
theorem sk : ∀ k, ∀ s ∈ [sg0 (s0 k)], SegB prog f31 0 s
 | 0 => (Lc (sn (Lc (fun _ _ => rfl) L0)) L0)
 | k + 1 => (Lc (sg_ok (hE k) (sk k) (Lc s0_ev L0)) L0)
theorem ok (k : Nat) : CtOK prog 31 (ct (f k)) := fn_ok func31 rfl (by decide) (hE k) (sk k) (Lc ev L0)
end transform_parts
namespace transform_Row
abbrev R : Type := (List (List D_api_Value)) × Int
def e (r : R) : Res := ⟨.tup [(.one (.d (.sl (.sl T_api_Value)) r.1)), (.one (.d (.int .i64) r.2))], []⟩
abbrev T (δ : Type) : Type := ByteArray → Int → (List D_api_Col) → D_api_Change → (List D_api_Value) → Option δ
abbrev A {δ : Type} (g : T δ) : Arm δ := ⟨[.s T_api_Table, .s T_api_Change, .d (.sl T_api_Value)], [], fun x y => g x.1.1.1 x.1.1.2.1 x.1.1.2.2.1 x.2.1.1 x.2.2.1⟩
abbrev G : Type := T R
def ct (g : G) : Ct := mkCt 0 [] [A g] e
section
variable {β : Type} (g20 : schema_Fits.G) (g25 : slices_Contains_string_string.G) (g26 : change_Sources.G) (g27 : transform_copied.G) (g28 : schema_Find.G) (g30 : convert_To.G) (g31 : transform_parts.G)
noncomputable abbrev env : FEnv := mkEnv prog f10 [(20, schema_Fits.ct g20), (25, slices_Contains_string_string.ct g25), (26, change_Sources.ct g26), (27, transform_copied.ct g27), (28, schema_Find.ct g28), (29, api_Value.ct ), (30, convert_To.ct g30), (31, transform_parts.ct g31)] 0 [] []
def c (ret : R → Option β) (a0 : ByteArray) (a1 : Int) (a2 : List D_api_Col) (a3 : D_api_Change) (a4 : List D_api_Value) : Option β := ((g20 a0 a1 a2 a4).bind fun r0 => (bif (r0 != (0 : Int)) then (ret ([], r0)) else ((g26 a3).bind fun r1 => ((g25 r1 a0).bind fun r2 => (bif (!r2) then (ret ([], (1 : Int))) else ((g27 a4).bind fun r3 => ((g28 a0 a1 a2 a3.2.2.2.2.2.1).bind fun r4 => (bif (a3.1 == (2 : Int)) then (bif (decide (((r3.length + (1 : Nat)) * (40 : Nat)) ≤ (35184372088832 : Nat))) then (ret ([(r3 ++ [a3.2.2.2.2.2.2.2.2.1.2.2.2.1])], (0 : Int))) else none) else (bif (a3.1 == (3 : Int)) then (bif (decide (r4 < a1)) then (ret ([], (10 : Int))) else (bif (((decide ((0 : Int) ≤ r4)) && (decide (r4 ≤ (IntKind.wrap .i64 (r4 + (1 : Int)))))) && (decide ((IntKind.wrap .i64 (r4 + (1 : Int))) ≤ (r3.length : Int)))) then (ret ([((List.take (Int.toNat r4) r3) ++ (List.drop (Int.toNat (IntKind.wrap .i64 (r4 + (1 : Int)))) r3))], (0 : Int))) else none)) else (bif (a3.1 == (4 : Int)) then (bif (decide (r4 < a1)) then (ret ([], (10 : Int))) else (bif ((decide ((0 : Int) ≤ r4)) && (decide (r4 < (a4.length : Int)))) then ((g30 (elem T_api_Value a4 r4).1 (elem T_api_Value a4 r4).2.1 (elem T_api_Value a4 r4).2.2.1 (elem T_api_Value a4 r4).2.2.2.1 a3.2.2.2.2.2.2.1).bind fun r5 => (bif (r5.2.2.2.2 != (0 : Int)) then (ret ([], r5.2.2.2.2)) else (bif ((decide ((0 : Int) ≤ r4)) && (decide (r4 < (r3.length : Int)))) then (ret ([(List.set r3 (Int.toNat r4) (r5.1, (r5.2.1, (r5.2.2.1, (r5.2.2.2.1, ())))))], (0 : Int))) else none))) else none)) else (bif (a3.1 == (5 : Int)) then ((g31 a0 a1 a2 a3 a4).bind fun r6 => (ret (r6, (0 : Int)))) else (ret ([r3], (0 : Int))))))))))))))
variable {g20} {g25} {g26} {g27} {g28} {g30} {g31}
theorem ev : EvA (env g20 g25 g26 g27 g28 g30 g31) [] [0, 1, 2] e (A (c g20 g25 g26 g27 g28 g30 g31 some)) := fun x y => Eq.trans (b := (A (c g20 g25 g26 g27 g28 g30 g31 fun r => some (e r))).G x y) (by kernel_rfl) (by simp only [A, c, bo, so, oa, os, on, ofs])
end
def f (k : Nat) (a0 : ByteArray) (a1 : Int) (a2 : List D_api_Col) (a3 : D_api_Change) (a4 : List D_api_Value) : Option R := c (schema_Fits.f k) (slices_Contains_string_string.f k) (change_Sources.f k) (transform_copied.f k) (schema_Find.f k) (convert_To.f k) (transform_parts.f k) some a0 a1 a2 a3 a4
noncomputable abbrev E (k : Nat) : FEnv := env (schema_Fits.f k) (slices_Contains_string_string.f k) (change_Sources.f k) (transform_copied.f k) (schema_Find.f k)  (convert_To.f k) (transform_parts.f k) 
theorem hE (k : Nat) : EnvOK (E k).toEnv := ctsOK (Lc (schema_Fits.ok k) (Lc (slices_Contains_string_string.ok k) (Lc (change_Sources.ok k) (Lc (transform_copied.ok k) (Lc (schema_Find.ok k) (Lc (api_Value.ok k) (Lc (convert_To.ok k) (Lc (transform_parts.ok k) L0))))))))
theorem ok (k : Nat) : CtOK prog 10 (ct (f k)) := fn_ok func10 rfl (by decide) (hE k) L0 (Lc ev L0)
end transform_Row
namespace transform_width
def e (r : Int) : Res := ⟨.v (.one (.d (.int .i64) r)), []⟩
abbrev T (δ : Type) : Type := D_api_Change → Option δ
abbrev A {δ : Type} (g : T δ) : Arm δ := ⟨[.s T_api_Change], [], fun x y => g x.1.1⟩
abbrev G : Type := T Int
def ct (g : G) : Ct := mkCt 0 [] [A g] e
section
variable {β : Type} 
noncomputable abbrev env : FEnv := mkEnv prog f38 [] 0 [] []
def c (ret : Int → Option β) (a0 : D_api_Change) : Option β := (bif (a0.1 == (5 : Int)) then (ret ((2 : Int))) else (bif (decide (a0.1 > (1 : Int))) then (bif (decide (a0.1 ≤ (6 : Int))) then (ret ((1 : Int))) else (ret ((0 : Int)))) else (ret ((0 : Int)))))
theorem ev : EvA (env) [] [0] e (A (c some)) := fun x y => Eq.trans (b := (A (c fun r => some (e r))).G x y) (by kernel_rfl) (by simp only [A, c, bo, so, oa, os, on, ofs])
end
def f (k : Nat) (a0 : D_api_Change) : Option Int := c  some a0
noncomputable abbrev E (k : Nat) : FEnv := env  
theorem hE (k : Nat) : EnvOK (E k).toEnv := ctsOK L0
theorem ok (k : Nat) : CtOK prog 38 (ct (f k)) := fn_ok func38 rfl (by decide) (hE k) L0 (Lc ev L0)
end transform_width
end Go.Proofs.YtijjlpgcpdapnaaGreatDoor.Aev
