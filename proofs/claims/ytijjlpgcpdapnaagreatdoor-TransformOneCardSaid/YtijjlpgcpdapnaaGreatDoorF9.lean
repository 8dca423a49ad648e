/- By a program of this session (AEV): functions of the program as plain functions, and that the machine does what they say. -/
import Derived.Test.YtijjlpgcpdapnaaGreatDoorTys
import Derived.Test.YtijjlpgcpdapnaaGreatDoorProg
import Derived.Laws.Externs
import Derived.Lib.Bytealg
import Derived.Test.YtijjlpgcpdapnaaGreatDoorF6
import Derived.Test.YtijjlpgcpdapnaaGreatDoorF7
import Derived.Test.YtijjlpgcpdapnaaGreatDoorF8
namespace Go.Proofs.YtijjlpgcpdapnaaGreatDoor.Aev
set_option linter.unusedVariables false
set_option linter.unusedSimpArgs false
set_option maxRecDepth 100000
set_option maxHeartbeats 4000000
open Go Go.Proofs.Tryz
namespace transomref07_To
abbrev R : Type := Int × Int × Int × ByteArray × Int
def e (r : R) : Res := ⟨.tup [(.agg [(.d (.int .i64) r.1), (.d (.int .i64) r.2.1), (.d (.int .u64) r.2.2.1), (.d .str r.2.2.2.1)]), (.one (.d (.int .i64) r.2.2.2.2))], []⟩
abbrev T (δ : Type) : Type := Int → Int → Int → ByteArray → Int → Option δ
abbrev A {δ : Type} (g : T δ) : Arm δ := ⟨[.s T_api_Value, .d (.int .i64)], [], fun x y => g x.1.1.1 x.1.1.2.1 x.1.1.2.2.1 x.1.1.2.2.2.1 x.2.1⟩
abbrev G : Type := T R
def ct (g : G) : Ct := mkCt 0 [] [A g] e
abbrev S0 (δ : Type) : Type := Int → Bool → Int → Int → Int → ByteArray → Int → Int → Int → ByteArray → Option δ
abbrev A_0 {δ : Type} (s : S0 δ) : Arm δ := ⟨[.d (.int .i64), .k (.ptr 0 0), .k (.ptr 1 0), .d .bool], [.box [.g T_api_Value], .box [.g T_api_Value]], fun x y => s x.1 x.2.2.2.1 y.1.1.1 y.1.1.2.1 y.1.1.2.2.1 y.1.1.2.2.2.1 y.2.1.1.1 y.2.1.1.2.1 y.2.1.1.2.2.1 y.2.1.1.2.2.2.1⟩
abbrev S1 (δ : Type) : Type := Int → Int → Int → Int → ByteArray → Int → Int → Int → ByteArray → Option δ
abbrev A_1 {δ : Type} (s : S1 δ) : Arm δ := ⟨[.d (.int .i64), .k (.ptr 0 0), .k (.ptr 1 0)], [.box [.g T_api_Value], .box [.g T_api_Value]], fun x y => s x.1 y.1.1.1 y.1.1.2.1 y.1.1.2.2.1 y.1.1.2.2.2.1 y.2.1.1.1 y.2.1.1.2.1 y.2.1.1.2.2.1 y.2.1.1.2.2.2.1⟩
abbrev S2 (δ : Type) : Type := Int → Bool → Int → Int → Int → ByteArray → Int → Int → Int → ByteArray → Option δ
abbrev A_2 {δ : Type} (s : S2 δ) : Arm δ := ⟨[.d (.int .i64), .k (.ptr 0 0), .k (.ptr 1 0), .d .bool], [.box [.g T_api_Value], .box [.g T_api_Value]], fun x y => s x.1 x.2.2.2.1 y.1.1.1 y.1.1.2.1 y.1.1.2.2.1 y.1.1.2.2.2.1 y.2.1.1.1 y.2.1.1.2.1 y.2.1.1.2.2.1 y.2.1.1.2.2.2.1⟩
abbrev S3 (δ : Type) : Type := Int → Int → Int → Int → ByteArray → Int → Int → Int → ByteArray → Option δ
abbrev A_3 {δ : Type} (s : S3 δ) : Arm δ := ⟨[.d (.int .i64), .k (.ptr 0 0), .k (.ptr 1 0)], [.box [.g T_api_Value], .box [.g T_api_Value]], fun x y => s x.1 y.1.1.1 y.1.1.2.1 y.1.1.2.2.1 y.1.1.2.2.2.1 y.2.1.1.1 y.2.1.1.2.1 y.2.1.1.2.2.1 y.2.1.1.2.2.2.1⟩
def sg0 (s : S0 R) : Seg := mkSg [1, 0, 1, 1] [] [1, 2, 4, 18] [A_0 s] e
def sg1 (s : S1 R) : Seg := mkSg [1, 1, 1] [] [1, 2, 4] [A_1 s] e
def sg2 (s : S2 R) : Seg := mkSg [1, 0, 1, 1, 1] [] [1, 2, 4, 28] [A_2 s] e
def sg3 (s : S3 R) : Seg := mkSg [1, 1, 1, 1] [] [1, 2, 4] [A_3 s] e
section
variable {β : Type} (g63 : transomref04_Check.G) (g64 : transomref07_Can.G) (g65 : transomref07_fromBool.G) (g66 : transomref07_fromInt.G) (g67 : transomref07_fromReal.G) (g68 : transomref07_fromBytes.G) (g69 : transomref07_fromText.G) (s0 : S0 R) (s1 : S1 R) (s2 : S2 R) (s3 : S3 R)
noncomputable abbrev env : FEnv := mkEnv prog f36 [(63, transomref04_Check.ct g63), (64, transomref07_Can.ct g64), (65, transomref07_fromBool.ct g65), (66, transomref07_fromInt.ct g66), (67, transomref07_fromReal.ct g67), (68, transomref07_fromBytes.ct g68), (69, transomref07_fromText.ct g69)] 0 [] [sg0 s0, sg1 s1, sg2 s2, sg3 s3]
def c (ret : R → Option β) (a0 : Int) (a1 : Int) (a2 : Int) (a3 : ByteArray) (a4 : Int) : Option β := ((g63 a0 a1 a2 a3).bind fun r0 => (bif (r0 != (0 : Int)) then (ret ((0 : Int), (0 : Int), (0 : Int), (ByteArray.mk (List.toArray [])), r0)) else (bif (decide (a4 < (1 : Int))) then ((s0 a4 true a0 a1 a2 a3 (0 : Int) (0 : Int) (0 : Int) (ByteArray.mk (List.toArray []))).bind ret) else ((s0 a4 (decide (a4 > (5 : Int))) a0 a1 a2 a3 (0 : Int) (0 : Int) (0 : Int) (ByteArray.mk (List.toArray []))).bind ret))))
def s0c (ret : R → Option β) (x0 : Int) (x1 : Bool) (x2 : Int) (x3 : Int) (x4 : Int) (x5 : ByteArray) (x6 : Int) (x7 : Int) (x8 : Int) (x9 : ByteArray) : Option β := (bif x1 then (ret ((0 : Int), (0 : Int), (0 : Int), (ByteArray.mk (List.toArray [])), (5 : Int))) else ((s1 x0 x2 x3 x4 x5 x6 x7 x8 x9).bind ret))
def s1c (ret : R → Option β) (x0 : Int) (x1 : Int) (x2 : Int) (x3 : Int) (x4 : ByteArray) (x5 : Int) (x6 : Int) (x7 : Int) (x8 : ByteArray) : Option β := (bif (x1 == (0 : Int)) then ((s2 x0 true x1 x2 x3 x4 x5 x6 x7 x8).bind ret) else ((s2 x0 (x1 == x0) x1 x2 x3 x4 x5 x6 x7 x8).bind ret))
def s2c (ret : R → Option β) (x0 : Int) (x1 : Bool) (x2 : Int) (x3 : Int) (x4 : Int) (x5 : ByteArray) (x6 : Int) (x7 : Int) (x8 : Int) (x9 : ByteArray) : Option β := (bif x1 then (ret (x2, x3, x4, x5, (0 : Int))) else ((s3 x0 x2 x3 x4 x5 x6 x7 x8 x9).bind ret))
def s3c (ret : R → Option β) (x0 : Int) (x1 : Int) (x2 : Int) (x3 : Int) (x4 : ByteArray) (x5 : Int) (x6 : Int) (x7 : Int) (x8 : ByteArray) : Option β := ((g64 x1 x0).bind fun r0 => (bif (!r0) then (ret ((0 : Int), (0 : Int), (0 : Int), (ByteArray.mk (List.toArray [])), (5 : Int))) else (bif (x1 == (1 : Int)) then ((g65 x2 x0).bind fun r1 => (ret (r1.1, r1.2.1, r1.2.2.1, r1.2.2.2.1, r1.2.2.2.2))) else (bif (x1 == (2 : Int)) then ((g66 x2 x0).bind fun r2 => (ret (r2.1, r2.2.1, r2.2.2.1, r2.2.2.2.1, r2.2.2.2.2))) else (bif (x1 == (3 : Int)) then ((g67 x3 x0).bind fun r3 => (ret (r3.1, r3.2.1, r3.2.2.1, r3.2.2.2.1, r3.2.2.2.2))) else (bif (x1 == (4 : Int)) then ((g68 x4 x0).bind fun r4 => (ret (r4.1, r4.2.1, r4.2.2.1, r4.2.2.2.1, r4.2.2.2.2))) else ((g69 x4 x0).bind fun r5 => (ret (r5.1, r5.2.1, r5.2.2.1, r5.2.2.2.1, r5.2.2.2.2)))))))))
variable {g63} {g64} {g65} {g66} {g67} {g68} {g69} {s0} {s1} {s2} {s3}
theorem ev : EvA (env g63 g64 g65 g66 g67 g68 g69 s0 s1 s2 s3) [] [0, 1] e (A (c g63 s0 some)) := fun x y => Eq.trans (b := (A (c g63 s0 fun r => some (e r))).G x y) (by kernel_rfl) (by simp only [A, c, bif_bind, sum_bind, oa, os, on, ofs])
theorem s0_ev : EvA (env g63 g64 g65 g66 g67 g68 g69 s0 s1 s2 s3) [1, 0, 1, 1] [1, 2, 4, 18] e (A_0 (s0c s1 some)) := fun x y => Eq.trans (b := (A_0 (s0c s1 fun r => some (e r))).G x y) (by kernel_rfl) (by simp only [A_0, s0c, bif_bind, sum_bind, oa, os, on, ofs])
theorem s1_ev : EvA (env g63 g64 g65 g66 g67 g68 g69 s0 s1 s2 s3) [1, 1, 1] [1, 2, 4] e (A_1 (s1c s2 some)) := fun x y => Eq.trans (b := (A_1 (s1c s2 fun r => some (e r))).G x y) (by kernel_rfl) (by simp only [A_1, s1c, bif_bind, sum_bind, oa, os, on, ofs])
theorem s2_ev : EvA (env g63 g64 g65 g66 g67 g68 g69 s0 s1 s2 s3) [1, 0, 1, 1, 1] [1, 2, 4, 28] e (A_2 (s2c s3 some)) := fun x y => Eq.trans (b := (A_2 (s2c s3 fun r => some (e r))).G x y) (by kernel_rfl) (by simp only [A_2, s2c, bif_bind, sum_bind, oa, os, on, ofs])
theorem s3_ev : EvA (env g63 g64 g65 g66 g67 g68 g69 s0 s1 s2 s3) [1, 1, 1, 1] [1, 2, 4] e (A_3 (s3c g64 g65 g66 g67 g68 g69 some)) := fun x y => Eq.trans (b := (A_3 (s3c g64 g65 g66 g67 g68 g69 fun r => some (e r))).G x y) (by kernel_rfl) (by simp only [A_3, s3c, bif_bind, sum_bind, oa, os, on, ofs])
end
mutual
def s0 : Nat → S0 R
  | 0, _, _, _, _, _, _, _, _, _, _ => none
  | k + 1, x0, x1, x2, x3, x4, x5, x6, x7, x8, x9 => s0c (s1 k) some x0 x1 x2 x3 x4 x5 x6 x7 x8 x9
def s1 : Nat → S1 R
  | 0, _, _, _, _, _, _, _, _, _ => none
  | k + 1, x0, x1, x2, x3, x4, x5, x6, x7, x8 => s1c (s2 k) some x0 x1 x2 x3 x4 x5 x6 x7 x8
def s2 : Nat → S2 R
  | 0, _, _, _, _, _, _, _, _, _, _ => none
  | k + 1, x0, x1, x2, x3, x4, x5, x6, x7, x8, x9 => s2c (s3 k) some x0 x1 x2 x3 x4 x5 x6 x7 x8 x9
def s3 : Nat → S3 R
  | 0, _, _, _, _, _, _, _, _, _ => none
  | k + 1, x0, x1, x2, x3, x4, x5, x6, x7, x8 => s3c (transomref07_Can.f k) (transomref07_fromBool.f k) (transomref07_fromInt.f k) (transomref07_fromReal.f k) (transomref07_fromBytes.f k) (transomref07_fromText.f k) some x0 x1 x2 x3 x4 x5 x6 x7 x8
end
def f (k : Nat) (a0 : Int) (a1 : Int) (a2 : Int) (a3 : ByteArray) (a4 : Int) : Option R := c (transomref04_Check.f k) (s0 k) some a0 a1 a2 a3 a4
noncomputable abbrev E (k : Nat) : FEnv := env (transomref04_Check.f k) (transomref07_Can.f k) (transomref07_fromBool.f k) (transomref07_fromInt.f k) (transomref07_fromReal.f k) (transomref07_fromBytes.f k) (transomref07_fromText.f k) (s0 k) (s1 k) (s2 k) (s3 k)
theorem hE (k : Nat) : EnvOK (E k).toEnv := ctsOK (Lc (transomref04_Check.ok k) (Lc (transomref07_Can.ok k) (Lc (transomref07_fromBool.ok k) (Lc (transomref07_fromInt.ok k) (Lc (transomref07_fromReal.ok k) (Lc (transomref07_fromBytes.ok k) (Lc (transomref07_fromText.ok k) L0)))))))
theorem segs_ok : ∀ k, ∀ s ∈ [sg0 (s0 k), sg1 (s1 k), sg2 (s2 k), sg3 (s3 k)], SegB prog f36 0 s
  | 0 => (Lc (sg_none (Lc (fun _ _ => rfl) L0)) (Lc (sg_none (Lc (fun _ _ => rfl) L0)) (Lc (sg_none (Lc (fun _ _ => rfl) L0)) (Lc (sg_none (Lc (fun _ _ => rfl) L0)) L0))))
  | k + 1 => (Lc (sg_ok (hE k) (segs_ok k) (Lc s0_ev L0)) (Lc (sg_ok (hE k) (segs_ok k) (Lc s1_ev L0)) (Lc (sg_ok (hE k) (segs_ok k) (Lc s2_ev L0)) (Lc (sg_ok (hE k) (segs_ok k) (Lc s3_ev L0)) L0))))
theorem ok (k : Nat) : CtOK prog 36 (ct (f k)) := fn_ok func36 rfl (by decide) (hE k) (segs_ok k) (Lc ev L0)
end transomref07_To
namespace transomref11_Row
abbrev R : Type := (List (List D_api_Value)) × Int
def e (r : R) : Res := ⟨.tup [(.one (.d (.sl (.sl T_api_Value)) r.1)), (.one (.d (.int .i64) r.2))], []⟩
abbrev T (δ : Type) : Type := ByteArray → Int → (List D_api_Col) → D_api_Change → (List D_api_Value) → Option δ
abbrev A {δ : Type} (g : T δ) : Arm δ := ⟨[.s T_api_Table, .s T_api_Change, .d (.sl T_api_Value)], [], fun x y => g x.1.1.1 x.1.1.2.1 x.1.1.2.2.1 x.2.1.1 x.2.2.1⟩
abbrev G : Type := T R
def ct (g : G) : Ct := mkCt 0 [] [A g] e
abbrev S0 (δ : Type) : Type := (List D_api_Value) → Int → Bool → ByteArray → Int → (List D_api_Col) → D_api_Change → Option δ
abbrev A_0 {δ : Type} (s : S0 δ) : Arm δ := ⟨[.d (.sl T_api_Value), .k (.ptr 0 0), .k (.ptr 1 0), .d (.int .i64), .d .bool], [.box [.g T_api_Table], .box [.g T_api_Change]], fun x y => s x.1 x.2.2.2.1 x.2.2.2.2.1 y.1.1.1 y.1.1.2.1 y.1.1.2.2.1 y.2.1.1⟩
abbrev S1 (δ : Type) : Type := (List D_api_Value) → Int → ByteArray → Int → (List D_api_Col) → D_api_Change → Option δ
abbrev A_1 {δ : Type} (s : S1 δ) : Arm δ := ⟨[.d (.sl T_api_Value), .k (.ptr 0 0), .k (.ptr 1 0), .d (.int .i64)], [.box [.g T_api_Table], .box [.g T_api_Change]], fun x y => s x.1 x.2.2.2.1 y.1.1.1 y.1.1.2.1 y.1.1.2.2.1 y.2.1.1⟩
abbrev S2 (δ : Type) : Type := (List D_api_Value) → Int → Int → ByteArray → Int → (List D_api_Col) → D_api_Change → (List D_api_Value) → (List D_api_Value) → Option δ
abbrev A_2 {δ : Type} (s : S2 δ) : Arm δ := ⟨[.d (.sl T_api_Value), .k (.ptr 0 0), .k (.ptr 1 0), .d (.int .i64), .k (.own 2), .k (.own 3), .d (.int .i64)], [.box [.g T_api_Table], .box [.g T_api_Change], .own T_api_Value false, .own T_api_Value false], fun x y => s x.1 x.2.2.2.1 x.2.2.2.2.2.2.1 y.1.1.1 y.1.1.2.1 y.1.1.2.2.1 y.2.1.1 y.2.2.1 y.2.2.2.1⟩
abbrev S3 (δ : Type) : Type := (List D_api_Value) → Int → Int → Bool → ByteArray → Int → (List D_api_Col) → D_api_Change → (List D_api_Value) → (List D_api_Value) → Int → Int → Int → ByteArray → Option δ
abbrev A_3 {δ : Type} (s : S3 δ) : Arm δ := ⟨[.d (.sl T_api_Value), .k (.ptr 0 0), .k (.ptr 1 0), .d (.int .i64), .k (.own 2), .k (.own 3), .d (.int .i64), .k (.ptr 4 0), .d .bool], [.box [.g T_api_Table], .box [.g T_api_Change], .own T_api_Value false, .own T_api_Value false, .box [.g T_api_Value]], fun x y => s x.1 x.2.2.2.1 x.2.2.2.2.2.2.1 x.2.2.2.2.2.2.2.2.1 y.1.1.1 y.1.1.2.1 y.1.1.2.2.1 y.2.1.1 y.2.2.1 y.2.2.2.1 y.2.2.2.2.1.1.1 y.2.2.2.2.1.1.2.1 y.2.2.2.2.1.1.2.2.1 y.2.2.2.2.1.1.2.2.2.1⟩
abbrev S4 (δ : Type) : Type := (List D_api_Value) → Int → Int → ByteArray → Int → (List D_api_Col) → D_api_Change → (List D_api_Value) → (List D_api_Value) → Int → Int → Int → ByteArray → Option δ
abbrev A_4 {δ : Type} (s : S4 δ) : Arm δ := ⟨[.d (.sl T_api_Value), .k (.ptr 0 0), .k (.ptr 1 0), .d (.int .i64), .k (.own 2), .k (.own 3), .d (.int .i64), .k (.ptr 4 0)], [.box [.g T_api_Table], .box [.g T_api_Change], .own T_api_Value false, .own T_api_Value false, .box [.g T_api_Value]], fun x y => s x.1 x.2.2.2.1 x.2.2.2.2.2.2.1 y.1.1.1 y.1.1.2.1 y.1.1.2.2.1 y.2.1.1 y.2.2.1 y.2.2.2.1 y.2.2.2.2.1.1.1 y.2.2.2.2.1.1.2.1 y.2.2.2.2.1.1.2.2.1 y.2.2.2.2.1.1.2.2.2.1⟩
abbrev S5 (δ : Type) : Type := (List D_api_Value) → Int → Int → Bool → Bool → ByteArray → Int → (List D_api_Col) → D_api_Change → (List D_api_Value) → (List D_api_Value) → Int → Int → Int → ByteArray → Option δ
abbrev A_5 {δ : Type} (s : S5 δ) : Arm δ := ⟨[.d (.sl T_api_Value), .k (.ptr 0 0), .k (.ptr 1 0), .d (.int .i64), .k (.own 2), .k (.own 3), .d (.int .i64), .k (.ptr 4 0), .d .bool, .d .bool], [.box [.g T_api_Table], .box [.g T_api_Change], .own T_api_Value false, .own T_api_Value false, .box [.g T_api_Value]], fun x y => s x.1 x.2.2.2.1 x.2.2.2.2.2.2.1 x.2.2.2.2.2.2.2.2.1 x.2.2.2.2.2.2.2.2.2.1 y.1.1.1 y.1.1.2.1 y.1.1.2.2.1 y.2.1.1 y.2.2.1 y.2.2.2.1 y.2.2.2.2.1.1.1 y.2.2.2.2.1.1.2.1 y.2.2.2.2.1.1.2.2.1 y.2.2.2.2.1.1.2.2.2.1⟩
abbrev S6 (δ : Type) : Type := (List D_api_Value) → Int → Int → Bool → ByteArray → Int → (List D_api_Col) → D_api_Change → (List D_api_Value) → (List D_api_Value) → Int → Int → Int → ByteArray → Option δ
abbrev A_6 {δ : Type} (s : S6 δ) : Arm δ := ⟨[.d (.sl T_api_Value), .k (.ptr 0 0), .k (.ptr 1 0), .d (.int .i64), .k (.own 2), .k (.own 3), .d (.int .i64), .k (.ptr 4 0), .d .bool], [.box [.g T_api_Table], .box [.g T_api_Change], .own T_api_Value false, .own T_api_Value false, .box [.g T_api_Value]], fun x y => s x.1 x.2.2.2.1 x.2.2.2.2.2.2.1 x.2.2.2.2.2.2.2.2.1 y.1.1.1 y.1.1.2.1 y.1.1.2.2.1 y.2.1.1 y.2.2.1 y.2.2.2.1 y.2.2.2.2.1.1.1 y.2.2.2.2.1.1.2.1 y.2.2.2.2.1.1.2.2.1 y.2.2.2.2.1.1.2.2.2.1⟩
abbrev S7 (δ : Type) : Type := (List D_api_Value) → Int → Int → Bool → ByteArray → Int → (List D_api_Col) → D_api_Change → (List D_api_Value) → (List D_api_Value) → Int → Int → Int → ByteArray → Option δ
abbrev A_7 {δ : Type} (s : S7 δ) : Arm δ := ⟨[.d (.sl T_api_Value), .k (.ptr 0 0), .k (.ptr 1 0), .d (.int .i64), .k (.own 2), .k (.own 3), .d (.int .i64), .k (.ptr 4 0), .d .bool], [.box [.g T_api_Table], .box [.g T_api_Change], .own T_api_Value false, .own T_api_Value false, .box [.g T_api_Value]], fun x y => s x.1 x.2.2.2.1 x.2.2.2.2.2.2.1 x.2.2.2.2.2.2.2.2.1 y.1.1.1 y.1.1.2.1 y.1.1.2.2.1 y.2.1.1 y.2.2.1 y.2.2.2.1 y.2.2.2.2.1.1.1 y.2.2.2.2.1.1.2.1 y.2.2.2.2.1.1.2.2.1 y.2.2.2.2.1.1.2.2.2.1⟩
abbrev S8 (δ : Type) : Type := (List D_api_Value) → Int → Int → ByteArray → Int → (List D_api_Col) → D_api_Change → (List D_api_Value) → (List D_api_Value) → Option δ
abbrev A_8 {δ : Type} (s : S8 δ) : Arm δ := ⟨[.d (.sl T_api_Value), .k (.ptr 0 0), .k (.ptr 1 0), .d (.int .i64), .k (.own 2), .k (.own 3), .d (.int .i64)], [.box [.g T_api_Table], .box [.g T_api_Change], .own T_api_Value false, .own T_api_Value false], fun x y => s x.1 x.2.2.2.1 x.2.2.2.2.2.2.1 y.1.1.1 y.1.1.2.1 y.1.1.2.2.1 y.2.1.1 y.2.2.1 y.2.2.2.1⟩
def sg0 (s : S0 R) : Seg := mkSg [1, 0, 1, 1, 1, 1] [] [2, 3, 4, 9, 46] [A_0 s] e
def sg1 (s : S1 R) : Seg := mkSg [1, 1, 1, 1, 1] [] [2, 3, 4, 9] [A_1 s] e
def sg2 (s : S2 R) : Seg := mkSg [4, 1, 0, 1, 1, 1, 1, 1, 1] [.own 10 T_api_Value, .own 11 T_api_Value] [2, 3, 4, 9, 10, 11, 12] [A_2 s] e
def sg3 (s : S3 R) : Seg := mkSg [1, 0, 1, 4, 0, 1, 5, 4, 1, 0, 1, 1, 1, 1, 1, 1] [] [2, 3, 4, 9, 10, 11, 12, 13, 64] [A_3 s] e
def sg4 (s : S4 R) : Seg := mkSg [1, 1, 4, 0, 1, 5, 4, 1, 0, 1, 1, 1, 1, 1, 1] [] [2, 3, 4, 9, 10, 11, 12, 13] [A_4 s] e
def sg5 (s : S5 R) : Seg := mkSg [1, 0, 1, 1, 1, 4, 0, 1, 5, 4, 1, 0, 1, 1, 1, 1, 1, 1] [] [2, 3, 4, 9, 10, 11, 12, 13, 16, 98] [A_5 s] e
def sg6 (s : S6 R) : Seg := mkSg [1, 1, 1, 1, 4, 0, 1, 5, 4, 1, 0, 1, 1, 1, 1, 1, 1] [.own 11 T_api_Value] [2, 3, 4, 9, 10, 11, 12, 13, 16] [A_6 s] e
def sg7 (s : S7 R) : Seg := mkSg [1, 1, 1, 1, 1, 4, 0, 1, 5, 4, 1, 0, 1, 1, 1, 1, 1, 1] [] [2, 3, 4, 9, 10, 11, 12, 13, 127] [A_7 s] e
def sg8 (s : S8 R) : Seg := mkSg [1, 1, 5, 4, 1, 0, 1, 1, 1, 1, 1, 1] [.own 10 T_api_Value, .own 11 T_api_Value] [2, 3, 4, 9, 10, 11, 12] [A_8 s] e
section
variable {β : Type} (g32 : transomref09_Fits.G) (g33 : transomref08_Find.G) (g34 : transomref10_Sources.G) (g35 : transomref09_Find.G) (g36 : transomref07_To.G) (s0 : S0 R) (s1 : S1 R) (s2 : S2 R) (s3 : S3 R) (s4 : S4 R) (s5 : S5 R) (s6 : S6 R) (s7 : S7 R) (s8 : S8 R)
noncomputable abbrev env : FEnv := mkEnv prog f11 [(32, transomref09_Fits.ct g32), (33, transomref08_Find.ct g33), (34, transomref10_Sources.ct g34), (35, transomref09_Find.ct g35), (36, transomref07_To.ct g36)] 0 [] [sg0 s0, sg1 s1, sg2 s2, sg3 s3, sg4 s4, sg5 s5, sg6 s6, sg7 s7, sg8 s8]
def c (ret : R → Option β) (a0 : ByteArray) (a1 : Int) (a2 : List D_api_Col) (a3 : D_api_Change) (a4 : List D_api_Value) : Option β := ((g32 a0 a1 a2 a4).bind fun r0 => (bif (r0 != (0 : Int)) then (ret ([], r0)) else ((g34 a3).bind fun r1 => ((g33 r1 a0).bind fun r2 => (bif (decide (r2 < (0 : Int))) then (ret ([], (1 : Int))) else ((g35 a0 a1 a2 a3.2.2.2.2.2.1).bind fun r3 => (bif (a3.1 == (3 : Int)) then ((s0 a4 r3 (decide (r3 < a1)) a0 a1 a2 a3).bind ret) else (bif (a3.1 == (4 : Int)) then ((s0 a4 r3 (decide (r3 < a1)) a0 a1 a2 a3).bind ret) else ((s0 a4 r3 false a0 a1 a2 a3).bind ret)))))))))
def s0c (ret : R → Option β) (x0 : List D_api_Value) (x1 : Int) (x2 : Bool) (x3 : ByteArray) (x4 : Int) (x5 : List D_api_Col) (x6 : D_api_Change) : Option β := (bif x2 then (ret ([], (10 : Int))) else ((s1 x0 x1 x3 x4 x5 x6).bind ret))
def s1c (ret : R → Option β) (x0 : List D_api_Value) (x1 : Int) (x2 : ByteArray) (x3 : Int) (x4 : List D_api_Col) (x5 : D_api_Change) : Option β := ((s2 x0 x1 (0 : Int) x2 x3 x4 x5 [] []).bind ret)
def s2c (ret : R → Option β) (x0 : List D_api_Value) (x1 : Int) (x2 : Int) (x3 : ByteArray) (x4 : Int) (x5 : List D_api_Col) (x6 : D_api_Change) (x7 : List D_api_Value) (x8 : List D_api_Value) : Option β := (bif (decide (x2 < (x0.length : Int))) then (bif ((decide ((0 : Int) ≤ x2)) && (decide (x2 < (x0.length : Int)))) then (bif (x6.1 == (4 : Int)) then ((s3 x0 x1 x2 (x2 == x1) x3 x4 x5 x6 x7 x8 (elem T_api_Value x0 x2).1 (elem T_api_Value x0 x2).2.1 (elem T_api_Value x0 x2).2.2.1 (elem T_api_Value x0 x2).2.2.2.1).bind ret) else ((s3 x0 x1 x2 false x3 x4 x5 x6 x7 x8 (elem T_api_Value x0 x2).1 (elem T_api_Value x0 x2).2.1 (elem T_api_Value x0 x2).2.2.1 (elem T_api_Value x0 x2).2.2.2.1).bind ret)) else none) else (bif (x6.1 == (2 : Int)) then (bif (decide (((x7.length + (1 : Nat)) * (40 : Nat)) ≤ (35184372088832 : Nat))) then (ret ([(x7 ++ [x6.2.2.2.2.2.2.2.2.1.2.2.2.1])], (0 : Int))) else none) else (bif (x6.1 == (5 : Int)) then (ret ([x7, x8], (0 : Int))) else (ret ([x7], (0 : Int))))))
def s3c (ret : R → Option β) (x0 : List D_api_Value) (x1 : Int) (x2 : Int) (x3 : Bool) (x4 : ByteArray) (x5 : Int) (x6 : List D_api_Col) (x7 : D_api_Change) (x8 : List D_api_Value) (x9 : List D_api_Value) (x10 : Int) (x11 : Int) (x12 : Int) (x13 : ByteArray) : Option β := (bif x3 then ((g36 x10 x11 x12 x13 x7.2.2.2.2.2.2.1).bind fun r0 => (bif (r0.2.2.2.2 != (0 : Int)) then (ret ([], r0.2.2.2.2)) else ((s4 x0 x1 x2 x4 x5 x6 x7 x8 x9 r0.1 r0.2.1 r0.2.2.1 r0.2.2.2.1).bind ret))) else ((s4 x0 x1 x2 x4 x5 x6 x7 x8 x9 x10 x11 x12 x13).bind ret))
def s4c (ret : R → Option β) (x0 : List D_api_Value) (x1 : Int) (x2 : Int) (x3 : ByteArray) (x4 : Int) (x5 : List D_api_Col) (x6 : D_api_Change) (x7 : List D_api_Value) (x8 : List D_api_Value) (x9 : Int) (x10 : Int) (x11 : Int) (x12 : ByteArray) : Option β := (bif ((decide ((0 : Int) ≤ x2)) && (decide (x2 < (x5.length : Int)))) then ((g33 x6.2.2.2.2.2.2.2.1 (elem T_api_Col x5 x2).1).bind fun r0 => (bif (x6.1 == (5 : Int)) then (bif (decide (x2 < x4)) then ((s5 x0 x1 x2 (decide (r0 ≥ (0 : Int))) true x3 x4 x5 x6 x7 x8 x9 x10 x11 x12).bind ret) else ((s5 x0 x1 x2 (decide (r0 ≥ (0 : Int))) (!(decide (r0 ≥ (0 : Int)))) x3 x4 x5 x6 x7 x8 x9 x10 x11 x12).bind ret)) else ((s5 x0 x1 x2 (decide (r0 ≥ (0 : Int))) false x3 x4 x5 x6 x7 x8 x9 x10 x11 x12).bind ret))) else none)
def s5c (ret : R → Option β) (x0 : List D_api_Value) (x1 : Int) (x2 : Int) (x3 : Bool) (x4 : Bool) (x5 : ByteArray) (x6 : Int) (x7 : List D_api_Col) (x8 : D_api_Change) (x9 : List D_api_Value) (x10 : List D_api_Value) (x11 : Int) (x12 : Int) (x13 : Int) (x14 : ByteArray) : Option β := (bif x4 then (bif (decide (((x10.length + (1 : Nat)) * (40 : Nat)) ≤ (35184372088832 : Nat))) then ((s6 x0 x1 x2 x3 x5 x6 x7 x8 x9 (x10 ++ [(x11, (x12, (x13, (x14, ()))))]) x11 x12 x13 x14).bind ret) else none) else ((s6 x0 x1 x2 x3 x5 x6 x7 x8 x9 x10 x11 x12 x13 x14).bind ret))
def s6c (ret : R → Option β) (x0 : List D_api_Value) (x1 : Int) (x2 : Int) (x3 : Bool) (x4 : ByteArray) (x5 : Int) (x6 : List D_api_Col) (x7 : D_api_Change) (x8 : List D_api_Value) (x9 : List D_api_Value) (x10 : Int) (x11 : Int) (x12 : Int) (x13 : ByteArray) : Option β := (bif (x7.1 == (3 : Int)) then (bif (!(x2 == x1)) then (bif (x7.1 == (5 : Int)) then (bif (decide (x2 ≥ x5)) then ((s7 x0 x1 x2 (!(!x3)) x4 x5 x6 x7 x8 x9 x10 x11 x12 x13).bind ret) else ((s7 x0 x1 x2 true x4 x5 x6 x7 x8 x9 x10 x11 x12 x13).bind ret)) else ((s7 x0 x1 x2 true x4 x5 x6 x7 x8 x9 x10 x11 x12 x13).bind ret)) else ((s7 x0 x1 x2 false x4 x5 x6 x7 x8 x9 x10 x11 x12 x13).bind ret)) else (bif (x7.1 == (5 : Int)) then (bif (decide (x2 ≥ x5)) then ((s7 x0 x1 x2 (!(!x3)) x4 x5 x6 (x7.1, (x7.2.1, (x7.2.2.1, (x7.2.2.2.1, (x7.2.2.2.2.1, (x7.2.2.2.2.2.1, (x7.2.2.2.2.2.2.1, (x7.2.2.2.2.2.2.2.1, ((x7.2.2.2.2.2.2.2.2.1.1, (x7.2.2.2.2.2.2.2.2.1.2.1, (x7.2.2.2.2.2.2.2.2.1.2.2.1, ((x7.2.2.2.2.2.2.2.2.1.2.2.2.1.1, (x7.2.2.2.2.2.2.2.2.1.2.2.2.1.2.1, (x7.2.2.2.2.2.2.2.2.1.2.2.2.1.2.2.1, (x7.2.2.2.2.2.2.2.2.1.2.2.2.1.2.2.2.1, ())))), ())))), ((x7.2.2.2.2.2.2.2.2.2.1.1, (x7.2.2.2.2.2.2.2.2.2.1.2.1, (x7.2.2.2.2.2.2.2.2.2.1.2.2.1, ()))), ())))))))))) x8 x9 x10 x11 x12 x13).bind ret) else ((s7 x0 x1 x2 true x4 x5 x6 (x7.1, (x7.2.1, (x7.2.2.1, (x7.2.2.2.1, (x7.2.2.2.2.1, (x7.2.2.2.2.2.1, (x7.2.2.2.2.2.2.1, (x7.2.2.2.2.2.2.2.1, ((x7.2.2.2.2.2.2.2.2.1.1, (x7.2.2.2.2.2.2.2.2.1.2.1, (x7.2.2.2.2.2.2.2.2.1.2.2.1, ((x7.2.2.2.2.2.2.2.2.1.2.2.2.1.1, (x7.2.2.2.2.2.2.2.2.1.2.2.2.1.2.1, (x7.2.2.2.2.2.2.2.2.1.2.2.2.1.2.2.1, (x7.2.2.2.2.2.2.2.2.1.2.2.2.1.2.2.2.1, ())))), ())))), ((x7.2.2.2.2.2.2.2.2.2.1.1, (x7.2.2.2.2.2.2.2.2.2.1.2.1, (x7.2.2.2.2.2.2.2.2.2.1.2.2.1, ()))), ())))))))))) x8 x9 x10 x11 x12 x13).bind ret)) else ((s7 x0 x1 x2 true x4 x5 x6 (x7.1, (x7.2.1, (x7.2.2.1, (x7.2.2.2.1, (x7.2.2.2.2.1, (x7.2.2.2.2.2.1, (x7.2.2.2.2.2.2.1, (x7.2.2.2.2.2.2.2.1, ((x7.2.2.2.2.2.2.2.2.1.1, (x7.2.2.2.2.2.2.2.2.1.2.1, (x7.2.2.2.2.2.2.2.2.1.2.2.1, ((x7.2.2.2.2.2.2.2.2.1.2.2.2.1.1, (x7.2.2.2.2.2.2.2.2.1.2.2.2.1.2.1, (x7.2.2.2.2.2.2.2.2.1.2.2.2.1.2.2.1, (x7.2.2.2.2.2.2.2.2.1.2.2.2.1.2.2.2.1, ())))), ())))), ((x7.2.2.2.2.2.2.2.2.2.1.1, (x7.2.2.2.2.2.2.2.2.2.1.2.1, (x7.2.2.2.2.2.2.2.2.2.1.2.2.1, ()))), ())))))))))) x8 x9 x10 x11 x12 x13).bind ret)))
def s7c (ret : R → Option β) (x0 : List D_api_Value) (x1 : Int) (x2 : Int) (x3 : Bool) (x4 : ByteArray) (x5 : Int) (x6 : List D_api_Col) (x7 : D_api_Change) (x8 : List D_api_Value) (x9 : List D_api_Value) (x10 : Int) (x11 : Int) (x12 : Int) (x13 : ByteArray) : Option β := (bif x3 then (bif (decide (((x8.length + (1 : Nat)) * (40 : Nat)) ≤ (35184372088832 : Nat))) then ((s8 x0 x1 x2 x4 x5 x6 x7 (x8 ++ [(x10, (x11, (x12, (x13, ()))))]) x9).bind ret) else none) else ((s8 x0 x1 x2 x4 x5 x6 x7 x8 x9).bind ret))
def s8c (ret : R → Option β) (x0 : List D_api_Value) (x1 : Int) (x2 : Int) (x3 : ByteArray) (x4 : Int) (x5 : List D_api_Col) (x6 : D_api_Change) (x7 : List D_api_Value) (x8 : List D_api_Value) : Option β := ((s2 x0 x1 (IntKind.wrap .i64 (x2 + (1 : Int))) x3 x4 x5 x6 x7 x8).bind ret)
variable {g32} {g33} {g34} {g35} {g36} {s0} {s1} {s2} {s3} {s4} {s5} {s6} {s7} {s8}
theorem ev : EvA (env g32 g33 g34 g35 g36 s0 s1 s2 s3 s4 s5 s6 s7 s8) [] [0, 1, 2] e (A (c g32 g33 g34 g35 s0 some)) := fun x y => Eq.trans (b := (A (c g32 g33 g34 g35 s0 fun r => some (e r))).G x y) (by kernel_rfl) (by simp only [A, c, bif_bind, sum_bind, oa, os, on, ofs])
theorem s0_ev : EvA (env g32 g33 g34 g35 g36 s0 s1 s2 s3 s4 s5 s6 s7 s8) [1, 0, 1, 1, 1, 1] [2, 3, 4, 9, 46] e (A_0 (s0c s1 some)) := fun x y => Eq.trans (b := (A_0 (s0c s1 fun r => some (e r))).G x y) (by kernel_rfl) (by simp only [A_0, s0c, bif_bind, sum_bind, oa, os, on, ofs])
theorem s1_ev : EvA (env g32 g33 g34 g35 g36 s0 s1 s2 s3 s4 s5 s6 s7 s8) [1, 1, 1, 1, 1] [2, 3, 4, 9] e (A_1 (s1c s2 some)) := fun x y => Eq.trans (b := (A_1 (s1c s2 fun r => some (e r))).G x y) (by kernel_rfl) (by simp only [A_1, s1c, bif_bind, sum_bind, oa, os, on, ofs])
theorem s2_ev : EvA (env g32 g33 g34 g35 g36 s0 s1 s2 s3 s4 s5 s6 s7 s8) [4, 1, 0, 1, 1, 1, 1, 1, 1] [2, 3, 4, 9, 10, 11, 12] e (A_2 (s2c s3 some)) := fun x y => Eq.trans (b := (A_2 (s2c s3 fun r => some (e r))).G x y) (by kernel_rfl) (by simp only [A_2, s2c, bif_bind, sum_bind, oa, os, on, ofs])
theorem s3_ev : EvA (env g32 g33 g34 g35 g36 s0 s1 s2 s3 s4 s5 s6 s7 s8) [1, 0, 1, 4, 0, 1, 5, 4, 1, 0, 1, 1, 1, 1, 1, 1] [2, 3, 4, 9, 10, 11, 12, 13, 64] e (A_3 (s3c g36 s4 some)) := fun x y => Eq.trans (b := (A_3 (s3c g36 s4 fun r => some (e r))).G x y) (by kernel_rfl) (by simp only [A_3, s3c, bif_bind, sum_bind, oa, os, on, ofs])
theorem s4_ev : EvA (env g32 g33 g34 g35 g36 s0 s1 s2 s3 s4 s5 s6 s7 s8) [1, 1, 4, 0, 1, 5, 4, 1, 0, 1, 1, 1, 1, 1, 1] [2, 3, 4, 9, 10, 11, 12, 13] e (A_4 (s4c g33 s5 some)) := fun x y => Eq.trans (b := (A_4 (s4c g33 s5 fun r => some (e r))).G x y) (by kernel_rfl) (by simp only [A_4, s4c, bif_bind, sum_bind, oa, os, on, ofs])
theorem s5_ev : EvA (env g32 g33 g34 g35 g36 s0 s1 s2 s3 s4 s5 s6 s7 s8) [1, 0, 1, 1, 1, 4, 0, 1, 5, 4, 1, 0, 1, 1, 1, 1, 1, 1] [2, 3, 4, 9, 10, 11, 12, 13, 16, 98] e (A_5 (s5c s6 some)) := fun x y => Eq.trans (b := (A_5 (s5c s6 fun r => some (e r))).G x y) (by kernel_rfl) (by simp only [A_5, s5c, bif_bind, sum_bind, oa, os, on, ofs])
theorem s6_ev : EvA (env g32 g33 g34 g35 g36 s0 s1 s2 s3 s4 s5 s6 s7 s8) [1, 1, 1, 1, 4, 0, 1, 5, 4, 1, 0, 1, 1, 1, 1, 1, 1] [2, 3, 4, 9, 10, 11, 12, 13, 16] e (A_6 (s6c s7 some)) := fun x y => Eq.trans (b := (A_6 (s6c s7 fun r => some (e r))).G x y) (by kernel_rfl) (by simp only [A_6, s6c, bif_bind, sum_bind, oa, os, on, ofs])
theorem s7_ev : EvA (env g32 g33 g34 g35 g36 s0 s1 s2 s3 s4 s5 s6 s7 s8) [1, 1, 1, 1, 1, 4, 0, 1, 5, 4, 1, 0, 1, 1, 1, 1, 1, 1] [2, 3, 4, 9, 10, 11, 12, 13, 127] e (A_7 (s7c s8 some)) := fun x y => Eq.trans (b := (A_7 (s7c s8 fun r => some (e r))).G x y) (by kernel_rfl) (by simp only [A_7, s7c, bif_bind, sum_bind, oa, os, on, ofs])
theorem s8_ev : EvA (env g32 g33 g34 g35 g36 s0 s1 s2 s3 s4 s5 s6 s7 s8) [1, 1, 5, 4, 1, 0, 1, 1, 1, 1, 1, 1] [2, 3, 4, 9, 10, 11, 12] e (A_8 (s8c s2 some)) := fun x y => Eq.trans (b := (A_8 (s8c s2 fun r => some (e r))).G x y) (by kernel_rfl) (by simp only [A_8, s8c, bif_bind, sum_bind, oa, os, on, ofs])
end
mutual
def s0 : Nat → S0 R
  | 0, _, _, _, _, _, _, _ => none
  | k + 1, x0, x1, x2, x3, x4, x5, x6 => s0c (s1 k) some x0 x1 x2 x3 x4 x5 x6
def s1 : Nat → S1 R
  | 0, _, _, _, _, _, _ => none
  | k + 1, x0, x1, x2, x3, x4, x5 => s1c (s2 k) some x0 x1 x2 x3 x4 x5
def s2 : Nat → S2 R
  | 0, _, _, _, _, _, _, _, _, _ => none
  | k + 1, x0, x1, x2, x3, x4, x5, x6, x7, x8 => s2c (s3 k) some x0 x1 x2 x3 x4 x5 x6 x7 x8
def s3 : Nat → S3 R
  | 0, _, _, _, _, _, _, _, _, _, _, _, _, _, _ => none
  | k + 1, x0, x1, x2, x3, x4, x5, x6, x7, x8, x9, x10, x11, x12, x13 => s3c (transomref07_To.f k) (s4 k) some x0 x1 x2 x3 x4 x5 x6 x7 x8 x9 x10 x11 x12 x13
def s4 : Nat → S4 R
  | 0, _, _, _, _, _, _, _, _, _, _, _, _, _ => none
  | k + 1, x0, x1, x2, x3, x4, x5, x6, x7, x8, x9, x10, x11, x12 => s4c (transomref08_Find.f k) (s5 k) some x0 x1 x2 x3 x4 x5 x6 x7 x8 x9 x10 x11 x12
def s5 : Nat → S5 R
  | 0, _, _, _, _, _, _, _, _, _, _, _, _, _, _, _ => none
  | k + 1, x0, x1, x2, x3, x4, x5, x6, x7, x8, x9, x10, x11, x12, x13, x14 => s5c (s6 k) some x0 x1 x2 x3 x4 x5 x6 x7 x8 x9 x10 x11 x12 x13 x14
def s6 : Nat → S6 R
  | 0, _, _, _, _, _, _, _, _, _, _, _, _, _, _ => none
  | k + 1, x0, x1, x2, x3, x4, x5, x6, x7, x8, x9, x10, x11, x12, x13 => s6c (s7 k) some x0 x1 x2 x3 x4 x5 x6 x7 x8 x9 x10 x11 x12 x13
def s7 : Nat → S7 R
  | 0, _, _, _, _, _, _, _, _, _, _, _, _, _, _ => none
  | k + 1, x0, x1, x2, x3, x4, x5, x6, x7, x8, x9, x10, x11, x12, x13 => s7c (s8 k) some x0 x1 x2 x3 x4 x5 x6 x7 x8 x9 x10 x11 x12 x13
def s8 : Nat → S8 R
  | 0, _, _, _, _, _, _, _, _, _ => none
  | k + 1, x0, x1, x2, x3, x4, x5, x6, x7, x8 => s8c (s2 k) some x0 x1 x2 x3 x4 x5 x6 x7 x8
end
def f (k : Nat) (a0 : ByteArray) (a1 : Int) (a2 : List D_api_Col) (a3 : D_api_Change) (a4 : List D_api_Value) : Option R := c (transomref09_Fits.f k) (transomref08_Find.f k) (transomref10_Sources.f k) (transomref09_Find.f k) (s0 k) some a0 a1 a2 a3 a4
noncomputable abbrev E (k : Nat) : FEnv := env (transomref09_Fits.f k) (transomref08_Find.f k) (transomref10_Sources.f k) (transomref09_Find.f k) (transomref07_To.f k) (s0 k) (s1 k) (s2 k) (s3 k) (s4 k) (s5 k) (s6 k) (s7 k) (s8 k)
theorem hE (k : Nat) : EnvOK (E k).toEnv := ctsOK (Lc (transomref09_Fits.ok k) (Lc (transomref08_Find.ok k) (Lc (transomref10_Sources.ok k) (Lc (transomref09_Find.ok k) (Lc (transomref07_To.ok k) L0)))))
theorem segs_ok : ∀ k, ∀ s ∈ [sg0 (s0 k), sg1 (s1 k), sg2 (s2 k), sg3 (s3 k), sg4 (s4 k), sg5 (s5 k), sg6 (s6 k), sg7 (s7 k), sg8 (s8 k)], SegB prog f11 0 s
  | 0 => (Lc (sg_none (Lc (fun _ _ => rfl) L0)) (Lc (sg_none (Lc (fun _ _ => rfl) L0)) (Lc (sg_none (Lc (fun _ _ => rfl) L0)) (Lc (sg_none (Lc (fun _ _ => rfl) L0)) (Lc (sg_none (Lc (fun _ _ => rfl) L0)) (Lc (sg_none (Lc (fun _ _ => rfl) L0)) (Lc (sg_none (Lc (fun _ _ => rfl) L0)) (Lc (sg_none (Lc (fun _ _ => rfl) L0)) (Lc (sg_none (Lc (fun _ _ => rfl) L0)) L0)))))))))
  | k + 1 => (Lc (sg_ok (hE k) (segs_ok k) (Lc s0_ev L0)) (Lc (sg_ok (hE k) (segs_ok k) (Lc s1_ev L0)) (Lc (sg_ok (hE k) (segs_ok k) (Lc s2_ev L0)) (Lc (sg_ok (hE k) (segs_ok k) (Lc s3_ev L0)) (Lc (sg_ok (hE k) (segs_ok k) (Lc s4_ev L0)) (Lc (sg_ok (hE k) (segs_ok k) (Lc s5_ev L0)) (Lc (sg_ok (hE k) (segs_ok k) (Lc s6_ev L0)) (Lc (sg_ok (hE k) (segs_ok k) (Lc s7_ev L0)) (Lc (sg_ok (hE k) (segs_ok k) (Lc s8_ev L0)) L0)))))))))
theorem ok (k : Nat) : CtOK prog 11 (ct (f k)) := fn_ok func11 rfl (by decide) (hE k) (segs_ok k) (Lc ev L0)
end transomref11_Row
namespace transomref04_Same
def e (r : Bool) : Res := ⟨.v (.one (.d .bool r)), []⟩
abbrev T (δ : Type) : Type := Int → Int → Int → ByteArray → Int → Int → Int → ByteArray → Option δ
abbrev A {δ : Type} (g : T δ) : Arm δ := ⟨[.s T_api_Value, .s T_api_Value], [], fun x y => g x.1.1.1 x.1.1.2.1 x.1.1.2.2.1 x.1.1.2.2.2.1 x.2.1.1.1 x.2.1.1.2.1 x.2.1.1.2.2.1 x.2.1.1.2.2.2.1⟩
abbrev G : Type := T Bool
def ct (g : G) : Ct := mkCt 0 [] [A g] e
section
variable {β : Type} 
noncomputable abbrev env : FEnv := mkEnv prog f96 [] 0 [] []
def c (ret : Bool → Option β) (a0 : Int) (a1 : Int) (a2 : Int) (a3 : ByteArray) (a4 : Int) (a5 : Int) (a6 : Int) (a7 : ByteArray) : Option β := (bif (a0 == a4) then (bif (a1 == a5) then (bif (a2 == a6) then (ret ((a3.toList == a7.toList))) else (ret (false))) else (ret (false))) else (ret (false)))
theorem ev : EvA (env) [] [0, 1] e (A (c some)) := fun x y => Eq.trans (b := (A (c fun r => some (e r))).G x y) (by kernel_rfl) (by simp only [A, c, bif_bind, sum_bind, oa, os, on, ofs])
end
def f (k : Nat) (a0 : Int) (a1 : Int) (a2 : Int) (a3 : ByteArray) (a4 : Int) (a5 : Int) (a6 : Int) (a7 : ByteArray) : Option Bool := c  some a0 a1 a2 a3 a4 a5 a6 a7
noncomputable abbrev E (k : Nat) : FEnv := env  
theorem hE (k : Nat) : EnvOK (E k).toEnv := ctsOK L0
theorem ok (k : Nat) : CtOK prog 96 (ct (f k)) := fn_ok func96 rfl (by decide) (hE k) L0 (Lc ev L0)
end transomref04_Same
namespace transomref04_SameRow
def e (r : Bool) : Res := ⟨.v (.one (.d .bool r)), []⟩
abbrev T (δ : Type) : Type := (List D_api_Value) → (List D_api_Value) → Option δ
abbrev A {δ : Type} (g : T δ) : Arm δ := ⟨[.d (.sl T_api_Value), .d (.sl T_api_Value)], [], fun x y => g x.1 x.2.1⟩
abbrev G : Type := T Bool
def ct (g : G) : Ct := mkCt 0 [] [A g] e
abbrev S0 (δ : Type) : Type := (List D_api_Value) → (List D_api_Value) → Int → Option δ
abbrev A_0 {δ : Type} (s : S0 δ) : Arm δ := ⟨[.d (.sl T_api_Value), .d (.sl T_api_Value), .d (.int .i64)], [], fun x y => s x.1 x.2.1 x.2.2.1⟩
def sg0 (s : S0 Bool) : Seg := mkSg [4, 1, 0, 1, 1] [] [0, 1, 5] [A_0 s] e
section
variable {β : Type} (g96 : transomref04_Same.G) (s0 : S0 Bool)
noncomputable abbrev env : FEnv := mkEnv prog f70 [(96, transomref04_Same.ct g96)] 0 [] [sg0 s0]
def c (ret : Bool → Option β) (a0 : List D_api_Value) (a1 : List D_api_Value) : Option β := (bif ((a0.length : Int) != (a1.length : Int)) then (ret (false)) else ((s0 a0 a1 (0 : Int)).bind ret))
def s0c (ret : Bool → Option β) (x0 : List D_api_Value) (x1 : List D_api_Value) (x2 : Int) : Option β := (bif (decide (x2 < (x0.length : Int))) then (bif ((decide ((0 : Int) ≤ x2)) && (decide (x2 < (x0.length : Int)))) then (bif ((decide ((0 : Int) ≤ x2)) && (decide (x2 < (x1.length : Int)))) then ((g96 (elem T_api_Value x0 x2).1 (elem T_api_Value x0 x2).2.1 (elem T_api_Value x0 x2).2.2.1 (elem T_api_Value x0 x2).2.2.2.1 (elem T_api_Value x1 x2).1 (elem T_api_Value x1 x2).2.1 (elem T_api_Value x1 x2).2.2.1 (elem T_api_Value x1 x2).2.2.2.1).bind fun r0 => (bif (!r0) then (ret (false)) else ((s0 x0 x1 (IntKind.wrap .i64 (x2 + (1 : Int)))).bind ret))) else none) else none) else (ret (true)))
variable {g96} {s0}
theorem ev : EvA (env g96 s0) [] [0, 1] e (A (c s0 some)) := fun x y => Eq.trans (b := (A (c s0 fun r => some (e r))).G x y) (by kernel_rfl) (by simp only [A, c, bif_bind, sum_bind, oa, os, on, ofs])
theorem s0_ev : EvA (env g96 s0) [4, 1, 0, 1, 1] [0, 1, 5] e (A_0 (s0c g96 s0 some)) := fun x y => Eq.trans (b := (A_0 (s0c g96 s0 fun r => some (e r))).G x y) (by kernel_rfl) (by simp only [A_0, s0c, bif_bind, sum_bind, oa, os, on, ofs])
end
def s0 : Nat → S0 Bool
  | 0, _, _, _ => none
  | k + 1, x0, x1, x2 => s0c (transomref04_Same.f k) (s0 k) some x0 x1 x2
def f (k : Nat) (a0 : List D_api_Value) (a1 : List D_api_Value) : Option Bool := c (s0 k) some a0 a1
noncomputable abbrev E (k : Nat) : FEnv := env (transomref04_Same.f k) (s0 k)
theorem hE (k : Nat) : EnvOK (E k).toEnv := ctsOK (Lc (transomref04_Same.ok k) L0)
theorem segs_ok : ∀ k, ∀ s ∈ [sg0 (s0 k)], SegB prog f70 0 s
  | 0 => (Lc (sg_none (Lc (fun _ _ => rfl) L0)) L0)
  | k + 1 => (Lc (sg_ok (hE k) (segs_ok k) (Lc s0_ev L0)) L0)
theorem ok (k : Nat) : CtOK prog 70 (ct (f k)) := fn_ok func70 rfl (by decide) (hE k) (segs_ok k) (Lc ev L0)
end transomref04_SameRow
namespace transomref06_Same
def e (r : Bool) : Res := ⟨.v (.one (.d .bool r)), []⟩
abbrev T (δ : Type) : Type := (List D_api_Value) → (List D_api_Value) → Option δ
abbrev A {δ : Type} (g : T δ) : Arm δ := ⟨[.d (.sl T_api_Value), .d (.sl T_api_Value)], [], fun x y => g x.1 x.2.1⟩
abbrev G : Type := T Bool
def ct (g : G) : Ct := mkCt 0 [] [A g] e
section
variable {β : Type} (g70 : transomref04_SameRow.G)
noncomputable abbrev env : FEnv := mkEnv prog f37 [(70, transomref04_SameRow.ct g70)] 0 [] []
def c (ret : Bool → Option β) (a0 : List D_api_Value) (a1 : List D_api_Value) : Option β := ((g70 a0 a1).bind fun r0 => (ret (r0)))
variable {g70}
theorem ev : EvA (env g70) [] [0, 1] e (A (c g70 some)) := fun x y => Eq.trans (b := (A (c g70 fun r => some (e r))).G x y) (by kernel_rfl) (by simp only [A, c, bif_bind, sum_bind, oa, os, on, ofs])
end
def f (k : Nat) (a0 : List D_api_Value) (a1 : List D_api_Value) : Option Bool := c (transomref04_SameRow.f k) some a0 a1
noncomputable abbrev E (k : Nat) : FEnv := env (transomref04_SameRow.f k) 
theorem hE (k : Nat) : EnvOK (E k).toEnv := ctsOK (Lc (transomref04_SameRow.ok k) L0)
theorem ok (k : Nat) : CtOK prog 37 (ct (f k)) := fn_ok func37 rfl (by decide) (hE k) L0 (Lc ev L0)
end transomref06_Same
namespace transomref06_All
def e (r : Bool) : Res := ⟨.v (.one (.d .bool r)), []⟩
abbrev T (δ : Type) : Type := (List (List D_api_Value)) → (List (List D_api_Value)) → Option δ
abbrev A {δ : Type} (g : T δ) : Arm δ := ⟨[.d (.sl (.sl T_api_Value)), .d (.sl (.sl T_api_Value))], [], fun x y => g x.1 x.2.1⟩
abbrev G : Type := T Bool
def ct (g : G) : Ct := mkCt 0 [] [A g] e
abbrev S0 (δ : Type) : Type := (List (List D_api_Value)) → (List (List D_api_Value)) → Int → Option δ
abbrev A_0 {δ : Type} (s : S0 δ) : Arm δ := ⟨[.d (.sl (.sl T_api_Value)), .d (.sl (.sl T_api_Value)), .d (.int .i64)], [], fun x y => s x.1 x.2.1 x.2.2.1⟩
def sg0 (s : S0 Bool) : Seg := mkSg [4, 1, 0, 1, 1] [] [0, 1, 5] [A_0 s] e
section
variable {β : Type} (g37 : transomref06_Same.G) (s0 : S0 Bool)
noncomputable abbrev env : FEnv := mkEnv prog f12 [(37, transomref06_Same.ct g37)] 0 [] [sg0 s0]
def c (ret : Bool → Option β) (a0 : List (List D_api_Value)) (a1 : List (List D_api_Value)) : Option β := (bif ((a0.length : Int) != (a1.length : Int)) then (ret (false)) else ((s0 a0 a1 (0 : Int)).bind ret))
def s0c (ret : Bool → Option β) (x0 : List (List D_api_Value)) (x1 : List (List D_api_Value)) (x2 : Int) : Option β := (bif (decide (x2 < (x0.length : Int))) then (bif ((decide ((0 : Int) ≤ x2)) && (decide (x2 < (x0.length : Int)))) then (bif ((decide ((0 : Int) ≤ x2)) && (decide (x2 < (x1.length : Int)))) then ((g37 (elem (Ty.sl T_api_Value) x0 x2) (elem (Ty.sl T_api_Value) x1 x2)).bind fun r0 => (bif (!r0) then (ret (false)) else ((s0 x0 x1 (IntKind.wrap .i64 (x2 + (1 : Int)))).bind ret))) else none) else none) else (ret (true)))
variable {g37} {s0}
theorem ev : EvA (env g37 s0) [] [0, 1] e (A (c s0 some)) := fun x y => Eq.trans (b := (A (c s0 fun r => some (e r))).G x y) (by kernel_rfl) (by simp only [A, c, bif_bind, sum_bind, oa, os, on, ofs])
theorem s0_ev : EvA (env g37 s0) [4, 1, 0, 1, 1] [0, 1, 5] e (A_0 (s0c g37 s0 some)) := fun x y => Eq.trans (b := (A_0 (s0c g37 s0 fun r => some (e r))).G x y) (by kernel_rfl) (by simp only [A_0, s0c, bif_bind, sum_bind, oa, os, on, ofs])
end
def s0 : Nat → S0 Bool
  | 0, _, _, _ => none
  | k + 1, x0, x1, x2 => s0c (transomref06_Same.f k) (s0 k) some x0 x1 x2
def f (k : Nat) (a0 : List (List D_api_Value)) (a1 : List (List D_api_Value)) : Option Bool := c (s0 k) some a0 a1
noncomputable abbrev E (k : Nat) : FEnv := env (transomref06_Same.f k) (s0 k)
theorem hE (k : Nat) : EnvOK (E k).toEnv := ctsOK (Lc (transomref06_Same.ok k) L0)
theorem segs_ok : ∀ k, ∀ s ∈ [sg0 (s0 k)], SegB prog f12 0 s
  | 0 => (Lc (sg_none (Lc (fun _ _ => rfl) L0)) L0)
  | k + 1 => (Lc (sg_ok (hE k) (segs_ok k) (Lc s0_ev L0)) L0)
theorem ok (k : Nat) : CtOK prog 12 (ct (f k)) := fn_ok func12 rfl (by decide) (hE k) (segs_ok k) (Lc ev L0)
end transomref06_All
end Go.Proofs.YtijjlpgcpdapnaaGreatDoor.Aev
