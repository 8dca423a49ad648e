import Derived.Test.YtijjlpgcpdapnaaGreatDoorTys
import Derived.Test.YtijjlpgcpdapnaaGreatDoorProg
import Derived.Laws.Externs
import Derived.Lib.Bytealg
import Derived.Test.YtijjlpgcpdapnaaGreatDoorF1
import Derived.Test.YtijjlpgcpdapnaaGreatDoorF2
import Derived.Test.YtijjlpgcpdapnaaGreatDoorF3
import Derived.Test.YtijjlpgcpdapnaaGreatDoorF7
/- By a program of this session (AEV): functions of the program as plain functions, and that the machine does what they say. -/
namespace Go.Proofs.YtijjlpgcpdapnaaGreatDoor.Aev
set_option linter.unusedVariables false
set_option linter.unusedSimpArgs false
set_option maxRecDepth 100000
set_option maxHeartbeats 4000000
open Go Go.Proofs.Tryz
namespace api_Errno
def e (r : Int) : Res := ⟨.v (.one (.d (.int .i64) r)), []⟩
abbrev T (δ : Type) : Type := (List Int) → Option δ
abbrev A {δ : Type} (g : T δ) : Arm δ := ⟨[.d (.sl (.int .i64))], [], fun x y => g x.1⟩
abbrev G : Type := T Int
def ct (g : G) : Ct := mkCt 0 [] [A g] e
abbrev S0 (δ : Type) : Type := Int → (List Int) → Int → Int → Option δ
abbrev A_0 {δ : Type} (s : S0 δ) : Arm δ := ⟨[.d (.int .i64), .d (.sl (.int .i64)), .d (.int .i64), .d (.int .i64)], [], fun x y => s x.1 x.2.1 x.2.2.1 x.2.2.2.1⟩
def sg0 (s : S0 Int) : Seg := mkSg [4, 1, 0, 1, 1] [] [3, 6, 7, 8] [A_0 s] e
section
variable {β : Type} (s0 : S0 Int)
noncomputable abbrev env : FEnv := mkEnv prog f164 [] 0 [] [sg0 s0]
def c (ret : Int → Option β) (a0 : List Int) : Option β := ((s0 (0 : Int) a0 (a0.length : Int) (0 : Int)).bind ret)
def s0c (ret : Int → Option β) (x0 : Int) (x1 : List Int) (x2 x3 : Int) : Option β := (bif (decide (x3 < x2)) then (bif ((decide ((0 : Int) ≤ x3)) && (decide (x3 < (x1.length : Int)))) then (bif ((elem (Ty.int IntKind.i64) x1 x3) != x0) then (ret ((elem (Ty.int IntKind.i64) x1 x3))) else ((s0 x0 x1 x2 (IntKind.wrap .i64 (x3 + (1 : Int)))).bind ret)) else none) else (ret (x0)))
variable {s0}
theorem ev : EvA (env s0) [] [0] e (A (c s0 some)) := fun x y => Eq.trans (b := (A (c s0 fun r => some (e r))).G x y) (by kernel_rfl) (by simp only [A, c, bo, so, oa, os, on, ofs])
theorem s0_ev : EvA (env s0) [4, 1, 0, 1, 1] [3, 6, 7, 8] e (A_0 (s0c s0 some)) := fun x y => Eq.trans (b := (A_0 (s0c s0 fun r => some (e r))).G x y) (by kernel_rfl) (by simp only [A_0, s0c, bo, so, oa, os, on, ofs])
end
def s0 : Nat → S0 Int
 | 0, _, _, _, _ => none
 | k + 1, x0, x1, x2, x3 => s0c (s0 k) some x0 x1 x2 x3
def f (k : Nat) (a0 : List Int) : Option Int := c (s0 k) some a0
noncomputable abbrev E (k : Nat) : FEnv := env  (s0 k)
theorem hE (k : Nat) : EnvOK (E k).toEnv := ctsOK L0
theorem sk : ∀ k, ∀ s ∈ [sg0 (s0 k)], SegB prog f164 0 s
 | 0 => (Lc (sn (Lc (fun _ _ => rfl) L0)) L0)
 | k + 1 => (Lc (sg_ok (hE k) (sk k) (Lc s0_ev L0)) L0)
theorem ok (k : Nat) : CtOK prog 164 (ct (f k)) := fn_ok func164 rfl (by decide) (hE k) (sk k) (Lc ev L0)
end api_Errno
namespace change_split_targets
abbrev R : Type := Int ⊕ (Int × ByteArray × Int × ByteArray × Int × (List D_api_Col) × (List D_api_Col))
def e (r : R) : Res := Sum.elim (fun r =>  ⟨.tup [(.one (.raw (.slice none 0 0))), (.one (.d (.int .i64) r))], []⟩) (fun r =>  ⟨.tup [(.one (.slb 0 2)), (.one (.d (.int .i64) r.1))], [some (.box [(.d .str r.2.1), (.d (.int .i64) r.2.2.1), (.own 1), (.d .str r.2.2.2.1), (.d (.int .i64) r.2.2.2.2.1), (.own 2)]), some (.own T_api_Col false r.2.2.2.2.2.1), some (.own T_api_Col false r.2.2.2.2.2.2)]⟩) r
abbrev T (δ : Type) : Type := D_api_Change → (List D_api_Table) → Option δ
abbrev A {δ : Type} (g : T δ) : Arm δ := ⟨[.s T_api_Change, .d (.sl T_api_Table)], [], fun x y => g x.1.1 x.2.1⟩
abbrev G : Type := T R
def ek {β : Type} (r : R) (K : Res → Option β) : Option β := Sum.elim (fun r => K ⟨.tup [(.one (.raw (.slice none 0 0))), (.one (.d (.int .i64) r))], []⟩) (fun r => K ⟨.tup [(.one (.slb 0 2)), (.one (.d (.int .i64) r.1))], [some (.box [(.d .str r.2.1), (.d (.int .i64) r.2.2.1), (.own 1), (.d .str r.2.2.2.1), (.d (.int .i64) r.2.2.2.2.1), (.own 2)]), some (.own T_api_Col false r.2.2.2.2.2.1), some (.own T_api_Col false r.2.2.2.2.2.2)]⟩) r
theorem hk {β : Type} (r : R) (K : Res → Option β) : ek r K = K (e r) := by rcases r with _ | _ <;> rfl
def ct (g : G) : Ct := mkCtS 0 [] [A g] e ek hk
abbrev S0 (δ : Type) : Type := (List ByteArray) → Int → Int → D_api_Change → ByteArray → Int → (List D_api_Col) → Option δ
abbrev A_0 {δ : Type} (s : S0 δ) : Arm δ := ⟨[.k (.ptr 0 0), .k (.ptr 1 0), .d (.sl .str), .d (.int .i64), .d (.int .i64)], [.box [.g T_api_Change], .box [.g T_api_Table]], fun x y => s x.2.2.1 x.2.2.2.1 x.2.2.2.2.1 y.1.1 y.2.1.1.1 y.2.1.1.2.1 y.2.1.1.2.2.1⟩
abbrev S1 (δ : Type) : Type := (List ByteArray) → Int → Int → Bool → D_api_Change → ByteArray → Int → (List D_api_Col) → Option δ
abbrev A_1 {δ : Type} (s : S1 δ) : Arm δ := ⟨[.k (.ptr 0 0), .k (.ptr 1 0), .d (.sl .str), .d (.int .i64), .d (.int .i64), .d .bool], [.box [.g T_api_Change], .box [.g T_api_Table]], fun x y => s x.2.2.1 x.2.2.2.1 x.2.2.2.2.1 x.2.2.2.2.2.1 y.1.1 y.2.1.1.1 y.2.1.1.2.1 y.2.1.1.2.2.1⟩
abbrev S2 (δ : Type) : Type := (List ByteArray) → Int → Int → D_api_Change → ByteArray → Int → (List D_api_Col) → Option δ
abbrev A_2 {δ : Type} (s : S2 δ) : Arm δ := ⟨[.k (.ptr 0 0), .k (.ptr 1 0), .d (.sl .str), .d (.int .i64), .d (.int .i64)], [.box [.g T_api_Change], .box [.g T_api_Table]], fun x y => s x.2.2.1 x.2.2.2.1 x.2.2.2.2.1 y.1.1 y.2.1.1.1 y.2.1.1.2.1 y.2.1.1.2.2.1⟩
abbrev S3 (δ : Type) : Type := (List D_api_Col) → Int → Int → D_api_Change → ByteArray → Int → (List D_api_Col) → ByteArray → Int → ByteArray → Int → (List D_api_Col) → (List D_api_Col) → Option δ
abbrev A_3 {δ : Type} (s : S3 δ) : Arm δ := ⟨[.k (.ptr 0 0), .k (.ptr 1 0), .k (.slb 2 2), .d (.sl T_api_Col), .d (.int .i64), .d (.int .i64)], [.box [.g T_api_Change], .box [.g T_api_Table], .box [.g .str, .g (.int .i64), .c (.own 3), .g .str, .g (.int .i64), .c (.own 4)], .own T_api_Col false, .own T_api_Col false], fun x y => s x.2.2.2.1 x.2.2.2.2.1 x.2.2.2.2.2.1 y.1.1 y.2.1.1.1 y.2.1.1.2.1 y.2.1.1.2.2.1 y.2.2.1.1 y.2.2.1.2.1 y.2.2.1.2.2.2.1 y.2.2.1.2.2.2.2.1 y.2.2.2.1 y.2.2.2.2.1⟩
def sg0 (s : S0 R) : Seg := mkSg [4, 1, 0, 1, 1, 1, 1] [] [2, 6, 35, 36, 37] [A_0 s] e
def sg1 (s : S1 R) : Seg := mkSg [1, 1, 4, 0, 1, 1, 5, 4, 1, 0, 1, 1, 1, 1] [] [2, 6, 35, 36, 37, 55] [A_1 s] e
def sg2 (s : S2 R) : Seg := mkSg [1, 1, 1, 5, 4, 1, 0, 1, 1, 1, 1] [] [2, 6, 35, 36, 37] [A_2 s] e
def sg3 (s : S3 R) : Seg := mkSg [4, 1, 0, 1, 1, 1, 1, 1, 1] [.cellOwn 10 2 T_api_Col, .cellOwn 10 5 T_api_Col] [2, 6, 10, 69, 70, 71] [A_3 s] e
section
variable {β : Type} (g25 : slices_Contains_string_string.G) (g28 : schema_Find.G) (g49 : names_Find.G) (g98 : names_Check.G) (g164 : api_Errno.G) (s0 : S0 R) (s1 : S1 R) (s2 : S2 R) (s3 : S3 R)
noncomputable abbrev env : FEnv := mkEnv prog f163 [(25, slices_Contains_string_string.ct g25), (28, schema_Find.ct g28), (49, names_Find.ct g49), (98, names_Check.ct g98), (164, api_Errno.ct g164)] 0 [0] [sg0 s0, sg1 s1, sg2 s2, sg3 s3]
def c (ret : R → Option β) (a0 : D_api_Change) (a1 : List D_api_Table) : Option β := (bif (true && (decide ((0 : Int) < (a1.length : Int)))) then ((g98 a0.2.2.2.1).bind fun r0 => ((g98 a0.2.2.2.2.1).bind fun r1 => ((g164 [r0, r1]).bind fun r2 => (bif (r2 != (0 : Int)) then (ret (.inl (r2))) else (bif (a0.2.2.2.1.toList == a0.2.2.2.2.1.toList) then (ret (.inl ((12 : Int)))) else ((s0 a0.2.2.2.2.2.2.2.1 (a0.2.2.2.2.2.2.2.1.length : Int) (0 : Int) a0 (elem T_api_Table a1 (0 : Int)).1 (elem T_api_Table a1 (0 : Int)).2.1 (elem T_api_Table a1 (0 : Int)).2.2.1).bind ret)))))) else none)
def s0c (ret : R → Option β) (x0 : List ByteArray) (x1 x2 : Int) (x3 : D_api_Change) (x4 : ByteArray) (x5 : Int) (x6 : List D_api_Col) : Option β := (bif (decide (x2 < x1)) then (bif ((decide ((0 : Int) ≤ x2)) && (decide (x2 < (x0.length : Int)))) then ((g28 x4 x5 x6 (elem Ty.str x0 x2)).bind fun r0 => (bif (decide (r0 < x5)) then ((s1 x0 x1 x2 true x3 x4 x5 x6).bind ret) else ((g49 x3.2.2.2.2.2.2.2.1 (elem Ty.str x0 x2)).bind fun r1 => ((s1 x0 x1 x2 (r1 != x2) x3 x4 x5 x6).bind ret)))) else none) else ((s3 x6 (x6.length : Int) (0 : Int) x3 x4 x5 x6 x3.2.2.2.1 x5 x3.2.2.2.2.1 x5 [] []).bind ret))
def s1c (ret : R → Option β) (x0 : List ByteArray) (x1 x2 : Int) (x3 : Bool) (x4 : D_api_Change) (x5 : ByteArray) (x6 : Int) (x7 : List D_api_Col) : Option β := (bif x3 then (ret (.inl ((10 : Int)))) else ((s2 x0 x1 x2 x4 x5 x6 x7).bind ret))
def s2c (ret : R → Option β) (x0 : List ByteArray) (x1 x2 : Int) (x3 : D_api_Change) (x4 : ByteArray) (x5 : Int) (x6 : List D_api_Col) : Option β := ((s0 x0 x1 (IntKind.wrap .i64 (x2 + (1 : Int))) x3 x4 x5 x6).bind ret)
def s3c (ret : R → Option β) (x0 : List D_api_Col) (x1 x2 : Int) (x3 : D_api_Change) (x4 : ByteArray) (x5 : Int) (x6 : List D_api_Col) (x7 : ByteArray) (x8 : Int) (x9 : ByteArray) (x10 : Int) (x11 x12 : List D_api_Col) : Option β := (bif (decide (x2 < x1)) then (bif ((decide ((0 : Int) ≤ x2)) && (decide (x2 < (x0.length : Int)))) then ((g25 x3.2.2.2.2.2.2.2.1 (elem T_api_Col x0 x2).1).bind fun r0 => (bif (decide (x2 < x5)) then (bif (decide (((x11.length + (1 : Nat)) * (72 : Nat)) ≤ (35184372088832 : Nat))) then (bif (decide (x2 < x5)) then (bif (decide (((x12.length + (1 : Nat)) * (72 : Nat)) ≤ (35184372088832 : Nat))) then ((s3 x0 x1 (IntKind.wrap .i64 (x2 + (1 : Int))) x3 x4 x5 x6 x7 x8 x9 x10 (x11 ++ [(elem T_api_Col x0 x2)]) (x12 ++ [(elem T_api_Col x0 x2)])).bind ret) else none) else (bif (r0 == false) then (bif (decide (((x12.length + (1 : Nat)) * (72 : Nat)) ≤ (35184372088832 : Nat))) then ((s3 x0 x1 (IntKind.wrap .i64 (x2 + (1 : Int))) x3 x4 x5 x6 x7 x8 x9 x10 (x11 ++ [(elem T_api_Col x0 x2)]) (x12 ++ [(elem T_api_Col x0 x2)])).bind ret) else none) else ((s3 x0 x1 (IntKind.wrap .i64 (x2 + (1 : Int))) x3 x4 x5 x6 x7 x8 x9 x10 (x11 ++ [(elem T_api_Col x0 x2)]) x12).bind ret))) else none) else (bif (r0 == true) then (bif (decide (((x11.length + (1 : Nat)) * (72 : Nat)) ≤ (35184372088832 : Nat))) then (bif (decide (x2 < x5)) then (bif (decide (((x12.length + (1 : Nat)) * (72 : Nat)) ≤ (35184372088832 : Nat))) then ((s3 x0 x1 (IntKind.wrap .i64 (x2 + (1 : Int))) x3 x4 x5 x6 x7 x8 x9 x10 (x11 ++ [(elem T_api_Col x0 x2)]) (x12 ++ [(elem T_api_Col x0 x2)])).bind ret) else none) else (bif (r0 == false) then (bif (decide (((x12.length + (1 : Nat)) * (72 : Nat)) ≤ (35184372088832 : Nat))) then ((s3 x0 x1 (IntKind.wrap .i64 (x2 + (1 : Int))) x3 x4 x5 x6 x7 x8 x9 x10 (x11 ++ [(elem T_api_Col x0 x2)]) (x12 ++ [(elem T_api_Col x0 x2)])).bind ret) else none) else ((s3 x0 x1 (IntKind.wrap .i64 (x2 + (1 : Int))) x3 x4 x5 x6 x7 x8 x9 x10 (x11 ++ [(elem T_api_Col x0 x2)]) x12).bind ret))) else none) else (bif (decide (x2 < x5)) then (bif (decide (((x12.length + (1 : Nat)) * (72 : Nat)) ≤ (35184372088832 : Nat))) then ((s3 x0 x1 (IntKind.wrap .i64 (x2 + (1 : Int))) x3 x4 x5 x6 x7 x8 x9 x10 x11 (x12 ++ [(elem T_api_Col x0 x2)])).bind ret) else none) else (bif (r0 == false) then (bif (decide (((x12.length + (1 : Nat)) * (72 : Nat)) ≤ (35184372088832 : Nat))) then ((s3 x0 x1 (IntKind.wrap .i64 (x2 + (1 : Int))) x3 x4 x5 x6 x7 x8 x9 x10 x11 (x12 ++ [(elem T_api_Col x0 x2)])).bind ret) else none) else ((s3 x0 x1 (IntKind.wrap .i64 (x2 + (1 : Int))) x3 x4 x5 x6 x7 x8 x9 x10 x11 x12).bind ret)))))) else none) else (ret (.inr ((0 : Int), x7, x8, x9, x10, x11, x12))))
variable {g25} {g28} {g49} {g98} {g164} {s0} {s1} {s2} {s3}
theorem ev : EvA (env g25 g28 g49 g98 g164 s0 s1 s2 s3) [] [0, 1] e (A (c g98 g164 s0 some)) := fun x y => Eq.trans (b := (A (c g98 g164 s0 fun r => some (e r))).G x y) (by kernel_rfl) (by simp only [A, c, bo, so, oa, os, on, ofs])
theorem s0_ev : EvA (env g25 g28 g49 g98 g164 s0 s1 s2 s3) [4, 1, 0, 1, 1, 1, 1] [2, 6, 35, 36, 37] e (A_0 (s0c g28 g49 s1 s3 some)) := fun x y => Eq.trans (b := (A_0 (s0c g28 g49 s1 s3 fun r => some (e r))).G x y) (by kernel_rfl) (by simp only [A_0, s0c, bo, so, oa, os, on, ofs])
theorem s1_ev : EvA (env g25 g28 g49 g98 g164 s0 s1 s2 s3) [1, 1, 4, 0, 1, 1, 5, 4, 1, 0, 1, 1, 1, 1] [2, 6, 35, 36, 37, 55] e (A_1 (s1c s2 some)) := fun x y => Eq.trans (b := (A_1 (s1c s2 fun r => some (e r))).G x y) (by kernel_rfl) (by simp only [A_1, s1c, bo, so, oa, os, on, ofs])
theorem s2_ev : EvA (env g25 g28 g49 g98 g164 s0 s1 s2 s3) [1, 1, 1, 5, 4, 1, 0, 1, 1, 1, 1] [2, 6, 35, 36, 37] e (A_2 (s2c s0 some)) := fun x y => Eq.trans (b := (A_2 (s2c s0 fun r => some (e r))).G x y) (by kernel_rfl) (by simp only [A_2, s2c, bo, so, oa, os, on, ofs])
theorem s3_ev : EvA (env g25 g28 g49 g98 g164 s0 s1 s2 s3) [4, 1, 0, 1, 1, 1, 1, 1, 1] [2, 6, 10, 69, 70, 71] e (A_3 (s3c g25 s3 some)) := fun x y => Eq.trans (b := (A_3 (s3c g25 s3 fun r => some (e r))).G x y) (by kernel_rfl) (by simp only [A_3, s3c, bo, so, oa, os, on, ofs])
end
mutual
def s0 : Nat → S0 R
 | 0, _, _, _, _, _, _, _ => none
 | k + 1, x0, x1, x2, x3, x4, x5, x6 => s0c (schema_Find.f k) (names_Find.f k) (s1 k) (s3 k) some x0 x1 x2 x3 x4 x5 x6
def s1 : Nat → S1 R
 | 0, _, _, _, _, _, _, _, _ => none
 | k + 1, x0, x1, x2, x3, x4, x5, x6, x7 => s1c (s2 k) some x0 x1 x2 x3 x4 x5 x6 x7
def s2 : Nat → S2 R
 | 0, _, _, _, _, _, _, _ => none
 | k + 1, x0, x1, x2, x3, x4, x5, x6 => s2c (s0 k) some x0 x1 x2 x3 x4 x5 x6
def s3 : Nat → S3 R
 | 0, _, _, _, _, _, _, _, _, _, _, _, _, _ => none
 | k + 1, x0, x1, x2, x3, x4, x5, x6, x7, x8, x9, x10, x11, x12 => s3c (slices_Contains_string_string.f k) (s3 k) some x0 x1 x2 x3 x4 x5 x6 x7 x8 x9 x10 x11 x12
end
def f (k : Nat) (a0 : D_api_Change) (a1 : List D_api_Table) : Option R := c (names_Check.f k) (api_Errno.f k) (s0 k) some a0 a1
noncomputable abbrev E (k : Nat) : FEnv := env (slices_Contains_string_string.f k) (schema_Find.f k) (names_Find.f k) (names_Check.f k) (api_Errno.f k) (s0 k) (s1 k) (s2 k) (s3 k)
theorem hE (k : Nat) : EnvOK (E k).toEnv := ctsOK (Lc (slices_Contains_string_string.ok k) (Lc (schema_Find.ok k) (Lc (names_Find.ok k) (Lc (names_Check.ok k) (Lc (api_Errno.ok k) L0)))))
theorem sk : ∀ k, ∀ s ∈ [sg0 (s0 k), sg1 (s1 k), sg2 (s2 k), sg3 (s3 k)], SegB prog f163 0 s
 | 0 => (Lc (sn (Lc (fun _ _ => rfl) L0)) (Lc (sn (Lc (fun _ _ => rfl) L0)) (Lc (sn (Lc (fun _ _ => rfl) L0)) (Lc (sn (Lc (fun _ _ => rfl) L0)) L0))))
 | k + 1 => (Lc (sg_ok (hE k) (sk k) (Lc s0_ev L0)) (Lc (sg_ok (hE k) (sk k) (Lc s1_ev L0)) (Lc (sg_ok (hE k) (sk k) (Lc s2_ev L0)) (Lc (sg_ok (hE k) (sk k) (Lc s3_ev L0)) L0))))
theorem ok (k : Nat) : CtOK prog 163 (ct (f k)) := fn_okS hk (fn_ok func163 rfl (by decide) (hE k) (sk k) (Lc ev L0))
end change_split_targets
namespace api_Col_167
def e (r : Bool) : Res := ⟨.v (.one (.d .bool r)), []⟩
abbrev T (δ : Type) : Type := (List D_api_Col) → (List D_api_Col) → Option δ
abbrev A {δ : Type} (g : T δ) : Arm δ := ⟨[.d (.sl T_api_Col), .d (.sl T_api_Col)], [], fun x y => g x.1 x.2.1⟩
abbrev G : Type := T Bool
def ct (g : G) : Ct := mkCt 0 [] [A g] e
abbrev S0 (δ : Type) : Type := (List D_api_Col) → (List D_api_Col) → Int → Int → Option δ
abbrev A_0 {δ : Type} (s : S0 δ) : Arm δ := ⟨[.d (.sl T_api_Col), .d (.sl T_api_Col), .d (.int .i64), .d (.int .i64)], [], fun x y => s x.1 x.2.1 x.2.2.1 x.2.2.2.1⟩
def sg0 (s : S0 Bool) : Seg := mkSg [4, 1, 0, 1, 1] [] [0, 1, 12, 13] [A_0 s] e
section
variable {β : Type} (s0 : S0 Bool)
noncomputable abbrev env : FEnv := mkEnv prog f167 [] 0 [] [sg0 s0]
def c (ret : Bool → Option β) (a0 a1 : List D_api_Col) : Option β := (bif ((a0.length : Int) != (a1.length : Int)) then (ret (false)) else ((s0 a0 a1 (a0.length : Int) (0 : Int)).bind ret))
def s0c (ret : Bool → Option β) (x0 x1 : List D_api_Col) (x2 x3 : Int) : Option β := (bif (decide (x3 < x2)) then (bif ((decide ((0 : Int) ≤ x3)) && (decide (x3 < (x0.length : Int)))) then (bif ((decide ((0 : Int) ≤ x3)) && (decide (x3 < (x1.length : Int)))) then (bif (!(((ByteArray.toList (elem T_api_Col x0 x3).1) == (ByteArray.toList (elem T_api_Col x1 x3).1)) && (((elem T_api_Col x0 x3).2.1 == (elem T_api_Col x1 x3).2.1) && (((elem T_api_Col x0 x3).2.2.1 == (elem T_api_Col x1 x3).2.2.1) && ((((elem T_api_Col x0 x3).2.2.2.1.1 == (elem T_api_Col x1 x3).2.2.2.1.1) && (((elem T_api_Col x0 x3).2.2.2.1.2.1 == (elem T_api_Col x1 x3).2.2.2.1.2.1) && (((elem T_api_Col x0 x3).2.2.2.1.2.2.1 == (elem T_api_Col x1 x3).2.2.2.1.2.2.1) && (((ByteArray.toList (elem T_api_Col x0 x3).2.2.2.1.2.2.2.1) == (ByteArray.toList (elem T_api_Col x1 x3).2.2.2.1.2.2.2.1)) && true)))) && true))))) then (ret (false)) else ((s0 x0 x1 x2 (IntKind.wrap .i64 (x3 + (1 : Int)))).bind ret)) else none) else none) else (ret (true)))
variable {s0}
theorem ev : EvA (env s0) [] [0, 1] e (A (c s0 some)) := fun x y => Eq.trans (b := (A (c s0 fun r => some (e r))).G x y) (by kernel_rfl) (by simp only [A, c, bo, so, oa, os, on, ofs])
theorem s0_ev : EvA (env s0) [4, 1, 0, 1, 1] [0, 1, 12, 13] e (A_0 (s0c s0 some)) := fun x y => Eq.trans (b := (A_0 (s0c s0 fun r => some (e r))).G x y) (by kernel_rfl) (by simp only [A_0, s0c, bo, so, oa, os, on, ofs])
end
def s0 : Nat → S0 Bool
 | 0, _, _, _, _ => none
 | k + 1, x0, x1, x2, x3 => s0c (s0 k) some x0 x1 x2 x3
def f (k : Nat) (a0 a1 : List D_api_Col) : Option Bool := c (s0 k) some a0 a1
noncomputable abbrev E (k : Nat) : FEnv := env  (s0 k)
theorem hE (k : Nat) : EnvOK (E k).toEnv := ctsOK L0
theorem sk : ∀ k, ∀ s ∈ [sg0 (s0 k)], SegB prog f167 0 s
 | 0 => (Lc (sn (Lc (fun _ _ => rfl) L0)) L0)
 | k + 1 => (Lc (sg_ok (hE k) (sk k) (Lc s0_ev L0)) L0)
theorem ok (k : Nat) : CtOK prog 167 (ct (f k)) := fn_ok func167 rfl (by decide) (hE k) (sk k) (Lc ev L0)
end api_Col_167
namespace change_merge_targets
abbrev R : Type := Int ⊕ (Int × ByteArray × Int × (List D_api_Col))
def e (r : R) : Res := Sum.elim (fun r =>  ⟨.tup [(.one (.raw (.slice none 0 0))), (.one (.d (.int .i64) r))], []⟩) (fun r =>  ⟨.tup [(.one (.slb 0 1)), (.one (.d (.int .i64) r.1))], [some (.box [(.d .str r.2.1), (.d (.int .i64) r.2.2.1), (.d (.sl T_api_Col) r.2.2.2)])]⟩) r
abbrev T (δ : Type) : Type := D_api_Change → (List D_api_Table) → Option δ
abbrev A {δ : Type} (g : T δ) : Arm δ := ⟨[.s T_api_Change, .d (.sl T_api_Table)], [], fun x y => g x.1.1 x.2.1⟩
abbrev G : Type := T R
def ek {β : Type} (r : R) (K : Res → Option β) : Option β := Sum.elim (fun r => K ⟨.tup [(.one (.raw (.slice none 0 0))), (.one (.d (.int .i64) r))], []⟩) (fun r => K ⟨.tup [(.one (.slb 0 1)), (.one (.d (.int .i64) r.1))], [some (.box [(.d .str r.2.1), (.d (.int .i64) r.2.2.1), (.d (.sl T_api_Col) r.2.2.2)])]⟩) r
theorem hk {β : Type} (r : R) (K : Res → Option β) : ek r K = K (e r) := by rcases r with _ | _ <;> rfl
def ct (g : G) : Ct := mkCtS 0 [] [A g] e ek hk
abbrev S0 (δ : Type) : Type := Int → Bool → D_api_Change → ByteArray → Int → (List D_api_Col) → Option δ
abbrev A_0 {δ : Type} (s : S0 δ) : Arm δ := ⟨[.k (.ptr 0 0), .k (.ptr 1 0), .d (.int .i64), .d .bool], [.box [.g T_api_Change], .box [.g T_api_Table]], fun x y => s x.2.2.1 x.2.2.2.1 y.1.1 y.2.1.1.1 y.2.1.1.2.1 y.2.1.1.2.2.1⟩
abbrev S1 (δ : Type) : Type := Int → D_api_Change → ByteArray → Int → (List D_api_Col) → Option δ
abbrev A_1 {δ : Type} (s : S1 δ) : Arm δ := ⟨[.k (.ptr 0 0), .k (.ptr 1 0), .d (.int .i64)], [.box [.g T_api_Change], .box [.g T_api_Table]], fun x y => s x.2.2.1 y.1.1 y.2.1.1.1 y.2.1.1.2.1 y.2.1.1.2.2.1⟩
def sg0 (s : S0 R) : Seg := mkSg [1, 0, 1, 1, 1, 1] [] [2, 6, 7, 39] [A_0 s] e
def sg1 (s : S1 R) : Seg := mkSg [1, 1, 1, 1, 1] [] [2, 6, 7] [A_1 s] e
section
variable {β : Type} (g42 : List D_api_Col → Option (List D_api_Col)) (g98 : names_Check.G) (g153 : change_one.G) (g167 : api_Col_167.G) (s0 : S0 R) (s1 : S1 R)
noncomputable abbrev env : FEnv := mkEnv prog f166 [(42, api_Col_42.ct g42), (98, names_Check.ct g98), (153, change_one.ct g153), (167, api_Col_167.ct g167)] 0 [0] [sg0 s0, sg1 s1]
def c (ret : R → Option β) (a0 : D_api_Change) (a1 : List D_api_Table) : Option β := (bif (a0.2.1.toList == a0.2.2.1.toList) then (ret (.inl ((12 : Int)))) else (bif (true && (decide ((0 : Int) < (a1.length : Int)))) then ((g98 a0.2.2.2.1).bind fun r0 => (bif (r0 == (0 : Int)) then (bif (true && (decide ((1 : Int) < (a1.length : Int)))) then (bif ((elem T_api_Table a1 (0 : Int)).2.1 != (elem T_api_Table a1 (1 : Int)).2.1) then ((s0 r0 true a0 (elem T_api_Table a1 (0 : Int)).1 (elem T_api_Table a1 (0 : Int)).2.1 (elem T_api_Table a1 (0 : Int)).2.2.1).bind ret) else (bif (true && (decide ((1 : Int) < (a1.length : Int)))) then ((g167 (elem T_api_Table a1 (0 : Int)).2.2.1 (elem T_api_Table a1 (1 : Int)).2.2.1).bind fun r1 => ((s0 r0 (!r1) a0 (elem T_api_Table a1 (0 : Int)).1 (elem T_api_Table a1 (0 : Int)).2.1 (elem T_api_Table a1 (0 : Int)).2.2.1).bind ret)) else none)) else none) else ((s0 r0 false a0 (elem T_api_Table a1 (0 : Int)).1 (elem T_api_Table a1 (0 : Int)).2.1 (elem T_api_Table a1 (0 : Int)).2.2.1).bind ret))) else none))
def s0c (ret : R → Option β) (x0 : Int) (x1 : Bool) (x2 : D_api_Change) (x3 : ByteArray) (x4 : Int) (x5 : List D_api_Col) : Option β := (bif x1 then ((s1 (11 : Int) x2 x3 x4 x5).bind ret) else ((s1 x0 x2 x3 x4 x5).bind ret))
def s1c (ret : R → Option β) (x0 : Int) (x1 : D_api_Change) (x2 : ByteArray) (x3 : Int) (x4 : List D_api_Col) : Option β := ((g42 x4).bind fun r0 => ((g153 x1.2.2.2.1 x3 r0 x0).bind fun r1 => (Sum.elim (fun r2 => (ret (.inl (r2)))) (fun r3 => (ret (.inr (r3.1, r3.2.1, r3.2.2.1, r3.2.2.2)))) r1)))
variable {g42} {g98} {g153} {g167} {s0} {s1}
theorem ev : EvA (env g42 g98 g153 g167 s0 s1) [] [0, 1] e (A (c g98 g167 s0 some)) := fun x y => Eq.trans (b := (A (c g98 g167 s0 fun r => some (e r))).G x y) (by kernel_rfl) (by simp only [A, c, bo, so, oa, os, on, ofs])
theorem s0_ev : EvA (env g42 g98 g153 g167 s0 s1) [1, 0, 1, 1, 1, 1] [2, 6, 7, 39] e (A_0 (s0c s1 some)) := fun x y => Eq.trans (b := (A_0 (s0c s1 fun r => some (e r))).G x y) (by kernel_rfl) (by simp only [A_0, s0c, bo, so, oa, os, on, ofs])
theorem s1_ev : EvA (env g42 g98 g153 g167 s0 s1) [1, 1, 1, 1, 1] [2, 6, 7] e (A_1 (s1c g42 g153 some)) := fun x y => Eq.trans (b := (A_1 (s1c g42 g153 fun r => some (e r))).G x y) (by kernel_rfl) (by simp only [A_1, s1c, bo, so, oa, os, on, ofs])
end
mutual
def s0 : Nat → S0 R
 | 0, _, _, _, _, _, _ => none
 | k + 1, x0, x1, x2, x3, x4, x5 => s0c (s1 k) some x0 x1 x2 x3 x4 x5
def s1 : Nat → S1 R
 | 0, _, _, _, _, _ => none
 | k + 1, x0, x1, x2, x3, x4 => s1c (api_Col_42.f k) (change_one.f k) some x0 x1 x2 x3 x4
end
def f (k : Nat) (a0 : D_api_Change) (a1 : List D_api_Table) : Option R := c (names_Check.f k) (api_Col_167.f k) (s0 k) some a0 a1
noncomputable abbrev E (k : Nat) : FEnv := env (api_Col_42.f k) (names_Check.f k) (change_one.f k) (api_Col_167.f k) (s0 k) (s1 k)
theorem hE (k : Nat) : EnvOK (E k).toEnv := ctsOK (Lc (api_Col_42.ok k) (Lc (names_Check.ok k) (Lc (change_one.ok k) (Lc (api_Col_167.ok k) L0))))
theorem sk : ∀ k, ∀ s ∈ [sg0 (s0 k), sg1 (s1 k)], SegB prog f166 0 s
 | 0 => (Lc (sn (Lc (fun _ _ => rfl) L0)) (Lc (sn (Lc (fun _ _ => rfl) L0)) L0))
 | k + 1 => (Lc (sg_ok (hE k) (sk k) (Lc s0_ev L0)) (Lc (sg_ok (hE k) (sk k) (Lc s1_ev L0)) L0))
theorem ok (k : Nat) : CtOK prog 166 (ct (f k)) := fn_okS hk (fn_ok func166 rfl (by decide) (hE k) (sk k) (Lc ev L0))
end change_merge_targets
end Go.Proofs.YtijjlpgcpdapnaaGreatDoor.Aev
