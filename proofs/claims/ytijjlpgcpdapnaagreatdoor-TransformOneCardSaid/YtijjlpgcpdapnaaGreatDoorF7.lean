/- By a program of this session (AEV): functions of the program as plain functions, and that the machine does what they say. -/
import Derived.Test.YtijjlpgcpdapnaaGreatDoorTys
import Derived.Test.YtijjlpgcpdapnaaGreatDoorProg
import Derived.Laws.Externs
import Derived.Lib.Bytealg
import Derived.Test.YtijjlpgcpdapnaaGreatDoorF5
import Derived.Test.YtijjlpgcpdapnaaGreatDoorF6
namespace Go.Proofs.YtijjlpgcpdapnaaGreatDoor.Aev
set_option linter.unusedVariables false
set_option linter.unusedSimpArgs false
set_option maxRecDepth 100000
set_option maxHeartbeats 4000000
open Go Go.Proofs.Tryz
namespace transomref09_Check
def e (r : Int) : Res := ⟨.v (.one (.d (.int .i64) r)), []⟩
abbrev T (δ : Type) : Type := ByteArray → Int → (List D_api_Col) → Option δ
abbrev A {δ : Type} (g : T δ) : Arm δ := ⟨[.s T_api_Table], [], fun x y => g x.1.1.1 x.1.1.2.1 x.1.1.2.2.1⟩
abbrev G : Type := T Int
def ct (g : G) : Ct := mkCt 0 [] [A g] e
abbrev S0 (δ : Type) : Type := Bool → ByteArray → Int → (List D_api_Col) → Option δ
abbrev A_0 {δ : Type} (s : S0 δ) : Arm δ := ⟨[.k (.ptr 0 0), .d .bool], [.box [.g T_api_Table]], fun x y => s x.2.1 y.1.1.1 y.1.1.2.1 y.1.1.2.2.1⟩
abbrev S1 (δ : Type) : Type := ByteArray → Int → (List D_api_Col) → Option δ
abbrev A_1 {δ : Type} (s : S1 δ) : Arm δ := ⟨[.k (.ptr 0 0)], [.box [.g T_api_Table]], fun x y => s y.1.1.1 y.1.1.2.1 y.1.1.2.2.1⟩
abbrev S2 (δ : Type) : Type := Bool → ByteArray → Int → (List D_api_Col) → Option δ
abbrev A_2 {δ : Type} (s : S2 δ) : Arm δ := ⟨[.k (.ptr 0 0), .d .bool], [.box [.g T_api_Table]], fun x y => s x.2.1 y.1.1.1 y.1.1.2.1 y.1.1.2.2.1⟩
abbrev S3 (δ : Type) : Type := ByteArray → Int → (List D_api_Col) → Option δ
abbrev A_3 {δ : Type} (s : S3 δ) : Arm δ := ⟨[.k (.ptr 0 0)], [.box [.g T_api_Table]], fun x y => s y.1.1.1 y.1.1.2.1 y.1.1.2.2.1⟩
abbrev S4 (δ : Type) : Type := Int → ByteArray → Int → (List D_api_Col) → Option δ
abbrev A_4 {δ : Type} (s : S4 δ) : Arm δ := ⟨[.k (.ptr 0 0), .d (.int .i64)], [.box [.g T_api_Table]], fun x y => s x.2.1 y.1.1.1 y.1.1.2.1 y.1.1.2.2.1⟩
abbrev S5 (δ : Type) : Type := Int → ByteArray → Int → (List D_api_Col) → Option δ
abbrev A_5 {δ : Type} (s : S5 δ) : Arm δ := ⟨[.k (.ptr 0 0), .d (.int .i64)], [.box [.g T_api_Table]], fun x y => s x.2.1 y.1.1.1 y.1.1.2.1 y.1.1.2.2.1⟩
def sg0 (s : S0 Int) : Seg := mkSg [1, 0, 1, 1] [] [1, 22] [A_0 s] e
def sg1 (s : S1 Int) : Seg := mkSg [1, 1, 1] [] [1] [A_1 s] e
def sg2 (s : S2 Int) : Seg := mkSg [1, 0, 1, 1, 1] [] [1, 38] [A_2 s] e
def sg3 (s : S3 Int) : Seg := mkSg [1, 1, 1, 1] [] [1] [A_3 s] e
def sg4 (s : S4 Int) : Seg := mkSg [4, 1, 0, 1, 1, 1, 1] [] [1, 4] [A_4 s] e
def sg5 (s : S5 Int) : Seg := mkSg [4, 1, 0, 1, 1, 1, 1, 1, 1] [] [1, 6] [A_5 s] e
section
variable {β : Type} (g62 : transomref09_Names.G) (g84 : transomref08_Check.G) (g85 : transomref09_CheckCol.G) (g86 : transomref08_Unlike.G) (s0 : S0 Int) (s1 : S1 Int) (s2 : S2 Int) (s3 : S3 Int) (s4 : S4 Int) (s5 : S5 Int)
noncomputable abbrev env : FEnv := mkEnv prog f60 [(62, transomref09_Names.ct g62), (84, transomref08_Check.ct g84), (85, transomref09_CheckCol.ct g85), (86, transomref08_Unlike.ct g86)] 0 [] [sg0 s0, sg1 s1, sg2 s2, sg3 s3, sg4 s4, sg5 s5]
def c (ret : Int → Option β) (a0 : ByteArray) (a1 : Int) (a2 : List D_api_Col) : Option β := ((g84 a0).bind fun r0 => (bif (r0 != (0 : Int)) then (ret (r0)) else (bif (decide ((a2.length : Int) < (1 : Int))) then ((s0 true a0 a1 a2).bind ret) else ((s0 (decide ((a2.length : Int) > (8 : Int))) a0 a1 a2).bind ret))))
def s0c (ret : Int → Option β) (x0 : Bool) (x1 : ByteArray) (x2 : Int) (x3 : List D_api_Col) : Option β := (bif x0 then (ret ((2 : Int))) else ((s1 x1 x2 x3).bind ret))
def s1c (ret : Int → Option β) (x0 : ByteArray) (x1 : Int) (x2 : List D_api_Col) : Option β := (bif (decide (x1 < (1 : Int))) then ((s2 true x0 x1 x2).bind ret) else (bif (decide (x1 > (3 : Int))) then ((s2 true x0 x1 x2).bind ret) else ((s2 (decide (x1 > (x2.length : Int))) x0 x1 x2).bind ret)))
def s2c (ret : Int → Option β) (x0 : Bool) (x1 : ByteArray) (x2 : Int) (x3 : List D_api_Col) : Option β := (bif x0 then (ret ((1 : Int))) else ((s3 x1 x2 x3).bind ret))
def s3c (ret : Int → Option β) (x0 : ByteArray) (x1 : Int) (x2 : List D_api_Col) : Option β := ((s4 (0 : Int) x0 x1 x2).bind ret)
def s4c (ret : Int → Option β) (x0 : Int) (x1 : ByteArray) (x2 : Int) (x3 : List D_api_Col) : Option β := (bif (decide (x0 < (x3.length : Int))) then (bif ((decide ((0 : Int) ≤ x0)) && (decide (x0 < (x3.length : Int)))) then ((g85 (elem T_api_Col x3 x0).1 (elem T_api_Col x3 x0).2.1 (elem T_api_Col x3 x0).2.2.1 (elem T_api_Col x3 x0).2.2.2.1.1 (elem T_api_Col x3 x0).2.2.2.1.2.1 (elem T_api_Col x3 x0).2.2.2.1.2.2.1 (elem T_api_Col x3 x0).2.2.2.1.2.2.2.1).bind fun r0 => (bif (r0 != (0 : Int)) then (ret (r0)) else ((s4 (IntKind.wrap .i64 (x0 + (1 : Int))) x1 x2 x3).bind ret))) else none) else ((g62 x3).bind fun r1 => ((g86 r1).bind fun r2 => (bif (!r2) then (ret ((12 : Int))) else ((s5 (0 : Int) x1 x2 x3).bind ret)))))
def s5c (ret : Int → Option β) (x0 : Int) (x1 : ByteArray) (x2 : Int) (x3 : List D_api_Col) : Option β := (bif (decide (x0 < x2)) then (bif ((decide ((0 : Int) ≤ x0)) && (decide (x0 < (x3.length : Int)))) then (bif (elem T_api_Col x3 x0).2.2.1 then (ret ((11 : Int))) else ((s5 (IntKind.wrap .i64 (x0 + (1 : Int))) x1 x2 x3).bind ret)) else none) else (ret ((0 : Int))))
variable {g62} {g84} {g85} {g86} {s0} {s1} {s2} {s3} {s4} {s5}
theorem ev : EvA (env g62 g84 g85 g86 s0 s1 s2 s3 s4 s5) [] [0] e (A (c g84 s0 some)) := fun x y => Eq.trans (b := (A (c g84 s0 fun r => some (e r))).G x y) (by kernel_rfl) (by simp only [A, c, bif_bind, sum_bind, oa, os, on, ofs])
theorem s0_ev : EvA (env g62 g84 g85 g86 s0 s1 s2 s3 s4 s5) [1, 0, 1, 1] [1, 22] e (A_0 (s0c s1 some)) := fun x y => Eq.trans (b := (A_0 (s0c s1 fun r => some (e r))).G x y) (by kernel_rfl) (by simp only [A_0, s0c, bif_bind, sum_bind, oa, os, on, ofs])
theorem s1_ev : EvA (env g62 g84 g85 g86 s0 s1 s2 s3 s4 s5) [1, 1, 1] [1] e (A_1 (s1c s2 some)) := fun x y => Eq.trans (b := (A_1 (s1c s2 fun r => some (e r))).G x y) (by kernel_rfl) (by simp only [A_1, s1c, bif_bind, sum_bind, oa, os, on, ofs])
theorem s2_ev : EvA (env g62 g84 g85 g86 s0 s1 s2 s3 s4 s5) [1, 0, 1, 1, 1] [1, 38] e (A_2 (s2c s3 some)) := fun x y => Eq.trans (b := (A_2 (s2c s3 fun r => some (e r))).G x y) (by kernel_rfl) (by simp only [A_2, s2c, bif_bind, sum_bind, oa, os, on, ofs])
theorem s3_ev : EvA (env g62 g84 g85 g86 s0 s1 s2 s3 s4 s5) [1, 1, 1, 1] [1] e (A_3 (s3c s4 some)) := fun x y => Eq.trans (b := (A_3 (s3c s4 fun r => some (e r))).G x y) (by kernel_rfl) (by simp only [A_3, s3c, bif_bind, sum_bind, oa, os, on, ofs])
theorem s4_ev : EvA (env g62 g84 g85 g86 s0 s1 s2 s3 s4 s5) [4, 1, 0, 1, 1, 1, 1] [1, 4] e (A_4 (s4c g62 g85 g86 s4 s5 some)) := fun x y => Eq.trans (b := (A_4 (s4c g62 g85 g86 s4 s5 fun r => some (e r))).G x y) (by kernel_rfl) (by simp only [A_4, s4c, bif_bind, sum_bind, oa, os, on, ofs])
theorem s5_ev : EvA (env g62 g84 g85 g86 s0 s1 s2 s3 s4 s5) [4, 1, 0, 1, 1, 1, 1, 1, 1] [1, 6] e (A_5 (s5c s5 some)) := fun x y => Eq.trans (b := (A_5 (s5c s5 fun r => some (e r))).G x y) (by kernel_rfl) (by simp only [A_5, s5c, bif_bind, sum_bind, oa, os, on, ofs])
end
mutual
def s0 : Nat → S0 Int
  | 0, _, _, _, _ => none
  | k + 1, x0, x1, x2, x3 => s0c (s1 k) some x0 x1 x2 x3
def s1 : Nat → S1 Int
  | 0, _, _, _ => none
  | k + 1, x0, x1, x2 => s1c (s2 k) some x0 x1 x2
def s2 : Nat → S2 Int
  | 0, _, _, _, _ => none
  | k + 1, x0, x1, x2, x3 => s2c (s3 k) some x0 x1 x2 x3
def s3 : Nat → S3 Int
  | 0, _, _, _ => none
  | k + 1, x0, x1, x2 => s3c (s4 k) some x0 x1 x2
def s4 : Nat → S4 Int
  | 0, _, _, _, _ => none
  | k + 1, x0, x1, x2, x3 => s4c (transomref09_Names.f k) (transomref09_CheckCol.f k) (transomref08_Unlike.f k) (s4 k) (s5 k) some x0 x1 x2 x3
def s5 : Nat → S5 Int
  | 0, _, _, _, _ => none
  | k + 1, x0, x1, x2, x3 => s5c (s5 k) some x0 x1 x2 x3
end
def f (k : Nat) (a0 : ByteArray) (a1 : Int) (a2 : List D_api_Col) : Option Int := c (transomref08_Check.f k) (s0 k) some a0 a1 a2
noncomputable abbrev E (k : Nat) : FEnv := env (transomref09_Names.f k) (transomref08_Check.f k) (transomref09_CheckCol.f k) (transomref08_Unlike.f k) (s0 k) (s1 k) (s2 k) (s3 k) (s4 k) (s5 k)
theorem hE (k : Nat) : EnvOK (E k).toEnv := ctsOK (Lc (transomref09_Names.ok k) (Lc (transomref08_Check.ok k) (Lc (transomref09_CheckCol.ok k) (Lc (transomref08_Unlike.ok k) L0))))
theorem segs_ok : ∀ k, ∀ s ∈ [sg0 (s0 k), sg1 (s1 k), sg2 (s2 k), sg3 (s3 k), sg4 (s4 k), sg5 (s5 k)], SegB prog f60 0 s
  | 0 => (Lc (sg_none (Lc (fun _ _ => rfl) L0)) (Lc (sg_none (Lc (fun _ _ => rfl) L0)) (Lc (sg_none (Lc (fun _ _ => rfl) L0)) (Lc (sg_none (Lc (fun _ _ => rfl) L0)) (Lc (sg_none (Lc (fun _ _ => rfl) L0)) (Lc (sg_none (Lc (fun _ _ => rfl) L0)) L0))))))
  | k + 1 => (Lc (sg_ok (hE k) (segs_ok k) (Lc s0_ev L0)) (Lc (sg_ok (hE k) (segs_ok k) (Lc s1_ev L0)) (Lc (sg_ok (hE k) (segs_ok k) (Lc s2_ev L0)) (Lc (sg_ok (hE k) (segs_ok k) (Lc s3_ev L0)) (Lc (sg_ok (hE k) (segs_ok k) (Lc s4_ev L0)) (Lc (sg_ok (hE k) (segs_ok k) (Lc s5_ev L0)) L0))))))
theorem ok (k : Nat) : CtOK prog 60 (ct (f k)) := fn_ok func60 rfl (by decide) (hE k) (segs_ok k) (Lc ev L0)
end transomref09_Check
namespace transomref09_fits
def e (r : Int) : Res := ⟨.v (.one (.d (.int .i64) r)), []⟩
abbrev T (δ : Type) : Type := ByteArray → Int → (List D_api_Col) → (List D_api_Value) → Option δ
abbrev A {δ : Type} (g : T δ) : Arm δ := ⟨[.s T_api_Table, .d (.sl T_api_Value)], [], fun x y => g x.1.1.1 x.1.1.2.1 x.1.1.2.2.1 x.2.1⟩
abbrev G : Type := T Int
def ct (g : G) : Ct := mkCt 0 [] [A g] e
abbrev S0 (δ : Type) : Type := (List D_api_Value) → Int → ByteArray → Int → (List D_api_Col) → Option δ
abbrev A_0 {δ : Type} (s : S0 δ) : Arm δ := ⟨[.d (.sl T_api_Value), .k (.ptr 0 0), .d (.int .i64)], [.box [.g T_api_Table]], fun x y => s x.1 x.2.2.1 y.1.1.1 y.1.1.2.1 y.1.1.2.2.1⟩
abbrev S1 (δ : Type) : Type := (List D_api_Value) → Int → Bool → ByteArray → Int → (List D_api_Col) → Option δ
abbrev A_1 {δ : Type} (s : S1 δ) : Arm δ := ⟨[.d (.sl T_api_Value), .k (.ptr 0 0), .d (.int .i64), .d .bool], [.box [.g T_api_Table]], fun x y => s x.1 x.2.2.1 x.2.2.2.1 y.1.1.1 y.1.1.2.1 y.1.1.2.2.1⟩
abbrev S2 (δ : Type) : Type := (List D_api_Value) → Int → ByteArray → Int → (List D_api_Col) → Option δ
abbrev A_2 {δ : Type} (s : S2 δ) : Arm δ := ⟨[.d (.sl T_api_Value), .k (.ptr 0 0), .d (.int .i64)], [.box [.g T_api_Table]], fun x y => s x.1 x.2.2.1 y.1.1.1 y.1.1.2.1 y.1.1.2.2.1⟩
def sg0 (s : S0 Int) : Seg := mkSg [4, 1, 0, 1] [] [1, 2, 5] [A_0 s] e
def sg1 (s : S1 Int) : Seg := mkSg [1, 1, 4, 0, 1, 5, 4, 1, 0, 1] [] [1, 2, 5, 57] [A_1 s] e
def sg2 (s : S2 Int) : Seg := mkSg [1, 1, 5, 4, 1, 0, 1] [] [1, 2, 5] [A_2 s] e
section
variable {β : Type} (g63 : transomref04_Check.G) (s0 : S0 Int) (s1 : S1 Int) (s2 : S2 Int)
noncomputable abbrev env : FEnv := mkEnv prog f61 [(63, transomref04_Check.ct g63)] 0 [] [sg0 s0, sg1 s1, sg2 s2]
def c (ret : Int → Option β) (a0 : ByteArray) (a1 : Int) (a2 : List D_api_Col) (a3 : List D_api_Value) : Option β := ((s0 a3 (0 : Int) a0 a1 a2).bind ret)
def s0c (ret : Int → Option β) (x0 : List D_api_Value) (x1 : Int) (x2 : ByteArray) (x3 : Int) (x4 : List D_api_Col) : Option β := (bif (decide (x1 < (x0.length : Int))) then (bif ((decide ((0 : Int) ≤ x1)) && (decide (x1 < (x0.length : Int)))) then ((g63 (elem T_api_Value x0 x1).1 (elem T_api_Value x0 x1).2.1 (elem T_api_Value x0 x1).2.2.1 (elem T_api_Value x0 x1).2.2.2.1).bind fun r0 => (bif (r0 != (0 : Int)) then (ret (r0)) else (bif ((decide ((0 : Int) ≤ x1)) && (decide (x1 < (x0.length : Int)))) then (bif ((elem T_api_Value x0 x1).1 == (0 : Int)) then (bif ((decide ((0 : Int) ≤ x1)) && (decide (x1 < (x4.length : Int)))) then (bif (!(elem T_api_Col x4 x1).2.2.1) then ((s1 x0 x1 true x2 x3 x4).bind ret) else (bif ((decide ((0 : Int) ≤ x1)) && (decide (x1 < (x0.length : Int)))) then (bif ((elem T_api_Value x0 x1).1 != (0 : Int)) then (bif ((decide ((0 : Int) ≤ x1)) && (decide (x1 < (x0.length : Int)))) then (bif ((decide ((0 : Int) ≤ x1)) && (decide (x1 < (x4.length : Int)))) then ((s1 x0 x1 ((elem T_api_Value x0 x1).1 != (elem T_api_Col x4 x1).2.1) x2 x3 x4).bind ret) else none) else none) else ((s1 x0 x1 false x2 x3 x4).bind ret)) else none)) else none) else (bif ((decide ((0 : Int) ≤ x1)) && (decide (x1 < (x0.length : Int)))) then (bif ((elem T_api_Value x0 x1).1 != (0 : Int)) then (bif ((decide ((0 : Int) ≤ x1)) && (decide (x1 < (x0.length : Int)))) then (bif ((decide ((0 : Int) ≤ x1)) && (decide (x1 < (x4.length : Int)))) then ((s1 x0 x1 ((elem T_api_Value x0 x1).1 != (elem T_api_Col x4 x1).2.1) x2 x3 x4).bind ret) else none) else none) else ((s1 x0 x1 false x2 x3 x4).bind ret)) else none)) else none))) else none) else (ret ((0 : Int))))
def s1c (ret : Int → Option β) (x0 : List D_api_Value) (x1 : Int) (x2 : Bool) (x3 : ByteArray) (x4 : Int) (x5 : List D_api_Col) : Option β := (bif x2 then (ret ((11 : Int))) else ((s2 x0 x1 x3 x4 x5).bind ret))
def s2c (ret : Int → Option β) (x0 : List D_api_Value) (x1 : Int) (x2 : ByteArray) (x3 : Int) (x4 : List D_api_Col) : Option β := ((s0 x0 (IntKind.wrap .i64 (x1 + (1 : Int))) x2 x3 x4).bind ret)
variable {g63} {s0} {s1} {s2}
theorem ev : EvA (env g63 s0 s1 s2) [] [0, 1] e (A (c s0 some)) := fun x y => Eq.trans (b := (A (c s0 fun r => some (e r))).G x y) (by kernel_rfl) (by simp only [A, c, bif_bind, sum_bind, oa, os, on, ofs])
theorem s0_ev : EvA (env g63 s0 s1 s2) [4, 1, 0, 1] [1, 2, 5] e (A_0 (s0c g63 s1 some)) := fun x y => Eq.trans (b := (A_0 (s0c g63 s1 fun r => some (e r))).G x y) (by kernel_rfl) (by simp only [A_0, s0c, bif_bind, sum_bind, oa, os, on, ofs])
theorem s1_ev : EvA (env g63 s0 s1 s2) [1, 1, 4, 0, 1, 5, 4, 1, 0, 1] [1, 2, 5, 57] e (A_1 (s1c s2 some)) := fun x y => Eq.trans (b := (A_1 (s1c s2 fun r => some (e r))).G x y) (by kernel_rfl) (by simp only [A_1, s1c, bif_bind, sum_bind, oa, os, on, ofs])
theorem s2_ev : EvA (env g63 s0 s1 s2) [1, 1, 5, 4, 1, 0, 1] [1, 2, 5] e (A_2 (s2c s0 some)) := fun x y => Eq.trans (b := (A_2 (s2c s0 fun r => some (e r))).G x y) (by kernel_rfl) (by simp only [A_2, s2c, bif_bind, sum_bind, oa, os, on, ofs])
end
mutual
def s0 : Nat → S0 Int
  | 0, _, _, _, _, _ => none
  | k + 1, x0, x1, x2, x3, x4 => s0c (transomref04_Check.f k) (s1 k) some x0 x1 x2 x3 x4
def s1 : Nat → S1 Int
  | 0, _, _, _, _, _, _ => none
  | k + 1, x0, x1, x2, x3, x4, x5 => s1c (s2 k) some x0 x1 x2 x3 x4 x5
def s2 : Nat → S2 Int
  | 0, _, _, _, _, _ => none
  | k + 1, x0, x1, x2, x3, x4 => s2c (s0 k) some x0 x1 x2 x3 x4
end
def f (k : Nat) (a0 : ByteArray) (a1 : Int) (a2 : List D_api_Col) (a3 : List D_api_Value) : Option Int := c (s0 k) some a0 a1 a2 a3
noncomputable abbrev E (k : Nat) : FEnv := env (transomref04_Check.f k) (s0 k) (s1 k) (s2 k)
theorem hE (k : Nat) : EnvOK (E k).toEnv := ctsOK (Lc (transomref04_Check.ok k) L0)
theorem segs_ok : ∀ k, ∀ s ∈ [sg0 (s0 k), sg1 (s1 k), sg2 (s2 k)], SegB prog f61 0 s
  | 0 => (Lc (sg_none (Lc (fun _ _ => rfl) L0)) (Lc (sg_none (Lc (fun _ _ => rfl) L0)) (Lc (sg_none (Lc (fun _ _ => rfl) L0)) L0)))
  | k + 1 => (Lc (sg_ok (hE k) (segs_ok k) (Lc s0_ev L0)) (Lc (sg_ok (hE k) (segs_ok k) (Lc s1_ev L0)) (Lc (sg_ok (hE k) (segs_ok k) (Lc s2_ev L0)) L0)))
theorem ok (k : Nat) : CtOK prog 61 (ct (f k)) := fn_ok func61 rfl (by decide) (hE k) (segs_ok k) (Lc ev L0)
end transomref09_fits
namespace transomref09_Fits
def e (r : Int) : Res := ⟨.v (.one (.d (.int .i64) r)), []⟩
abbrev T (δ : Type) : Type := ByteArray → Int → (List D_api_Col) → (List D_api_Value) → Option δ
abbrev A {δ : Type} (g : T δ) : Arm δ := ⟨[.s T_api_Table, .d (.sl T_api_Value)], [], fun x y => g x.1.1.1 x.1.1.2.1 x.1.1.2.2.1 x.2.1⟩
abbrev G : Type := T Int
def ct (g : G) : Ct := mkCt 0 [] [A g] e
section
variable {β : Type} (g60 : transomref09_Check.G) (g61 : transomref09_fits.G)
noncomputable abbrev env : FEnv := mkEnv prog f32 [(60, transomref09_Check.ct g60), (61, transomref09_fits.ct g61)] 0 [] []
def c (ret : Int → Option β) (a0 : ByteArray) (a1 : Int) (a2 : List D_api_Col) (a3 : List D_api_Value) : Option β := ((g60 a0 a1 a2).bind fun r0 => (bif (r0 != (0 : Int)) then (ret (r0)) else (bif ((a3.length : Int) != (a2.length : Int)) then (ret ((11 : Int))) else ((g61 a0 a1 a2 a3).bind fun r1 => (ret (r1))))))
variable {g60} {g61}
theorem ev : EvA (env g60 g61) [] [0, 1] e (A (c g60 g61 some)) := fun x y => Eq.trans (b := (A (c g60 g61 fun r => some (e r))).G x y) (by kernel_rfl) (by simp only [A, c, bif_bind, sum_bind, oa, os, on, ofs])
end
def f (k : Nat) (a0 : ByteArray) (a1 : Int) (a2 : List D_api_Col) (a3 : List D_api_Value) : Option Int := c (transomref09_Check.f k) (transomref09_fits.f k) some a0 a1 a2 a3
noncomputable abbrev E (k : Nat) : FEnv := env (transomref09_Check.f k) (transomref09_fits.f k) 
theorem hE (k : Nat) : EnvOK (E k).toEnv := ctsOK (Lc (transomref09_Check.ok k) (Lc (transomref09_fits.ok k) L0))
theorem ok (k : Nat) : CtOK prog 32 (ct (f k)) := fn_ok func32 rfl (by decide) (hE k) L0 (Lc ev L0)
end transomref09_Fits
namespace transomref10_Sources
def e (r : (List ByteArray)) : Res := ⟨.v (.one (.d (.sl .str) r)), []⟩
abbrev T (δ : Type) : Type := D_api_Change → Option δ
abbrev A {δ : Type} (g : T δ) : Arm δ := ⟨[.s T_api_Change], [], fun x y => g x.1.1⟩
abbrev G : Type := T (List ByteArray)
def ct (g : G) : Ct := mkCt 0 [] [A g] e
abbrev S0 (δ : Type) : Type := Int → Bool → D_api_Change → Option δ
abbrev A_0 {δ : Type} (s : S0 δ) : Arm δ := ⟨[.k (.ptr 0 0), .d (.int .i64), .d .bool], [.box [.g T_api_Change]], fun x y => s x.2.1 x.2.2.1 y.1.1⟩
def sg0 (s : S0 (List ByteArray)) : Seg := mkSg [1, 4, 1, 0, 1] [] [1, 4, 5] [A_0 s] e
section
variable {β : Type} (s0 : S0 (List ByteArray))
noncomputable abbrev env : FEnv := mkEnv prog f34 [] 0 [] [sg0 s0]
def c (ret : (List ByteArray) → Option β) (a0 : D_api_Change) : Option β := (bif (a0.1 == (2 : Int)) then ((s0 a0.1 (a0.1 == (2 : Int)) a0).bind ret) else (bif (a0.1 == (3 : Int)) then ((s0 a0.1 (a0.1 == (3 : Int)) a0).bind ret) else (bif (a0.1 == (4 : Int)) then ((s0 a0.1 (a0.1 == (4 : Int)) a0).bind ret) else ((s0 a0.1 (a0.1 == (5 : Int)) a0).bind ret))))
def s0c (ret : (List ByteArray) → Option β) (x0 : Int) (x1 : Bool) (x2 : D_api_Change) : Option β := (bif x1 then (ret ([x2.2.1])) else (bif (x0 == (6 : Int)) then (ret ([x2.2.1, x2.2.2.1])) else (ret ([]))))
variable {s0}
theorem ev : EvA (env s0) [] [0] e (A (c s0 some)) := fun x y => Eq.trans (b := (A (c s0 fun r => some (e r))).G x y) (by kernel_rfl) (by simp only [A, c, bif_bind, sum_bind, oa, os, on, ofs])
theorem s0_ev : EvA (env s0) [1, 4, 1, 0, 1] [1, 4, 5] e (A_0 (s0c some)) := fun x y => Eq.trans (b := (A_0 (s0c fun r => some (e r))).G x y) (by kernel_rfl) (by simp only [A_0, s0c, bif_bind, sum_bind, oa, os, on, ofs])
end
def s0 : Nat → S0 (List ByteArray)
  | 0, _, _, _ => none
  | k + 1, x0, x1, x2 => s0c  some x0 x1 x2
def f (k : Nat) (a0 : D_api_Change) : Option (List ByteArray) := c (s0 k) some a0
noncomputable abbrev E (k : Nat) : FEnv := env  (s0 k)
theorem hE (k : Nat) : EnvOK (E k).toEnv := ctsOK L0
theorem segs_ok : ∀ k, ∀ s ∈ [sg0 (s0 k)], SegB prog f34 0 s
  | 0 => (Lc (sg_none (Lc (fun _ _ => rfl) L0)) L0)
  | k + 1 => (Lc (sg_ok (hE k) (segs_ok k) (Lc s0_ev L0)) L0)
theorem ok (k : Nat) : CtOK prog 34 (ct (f k)) := fn_ok func34 rfl (by decide) (hE k) (segs_ok k) (Lc ev L0)
end transomref10_Sources
namespace transomref09_Find
def e (r : Int) : Res := ⟨.v (.one (.d (.int .i64) r)), []⟩
abbrev T (δ : Type) : Type := ByteArray → Int → (List D_api_Col) → ByteArray → Option δ
abbrev A {δ : Type} (g : T δ) : Arm δ := ⟨[.s T_api_Table, .d .str], [], fun x y => g x.1.1.1 x.1.1.2.1 x.1.1.2.2.1 x.2.1⟩
abbrev G : Type := T Int
def ct (g : G) : Ct := mkCt 0 [] [A g] e
section
variable {β : Type} (g33 : transomref08_Find.G) (g62 : transomref09_Names.G)
noncomputable abbrev env : FEnv := mkEnv prog f35 [(33, transomref08_Find.ct g33), (62, transomref09_Names.ct g62)] 0 [] []
def c (ret : Int → Option β) (a0 : ByteArray) (a1 : Int) (a2 : List D_api_Col) (a3 : ByteArray) : Option β := ((g62 a2).bind fun r0 => ((g33 r0 a3).bind fun r1 => (ret (r1))))
variable {g33} {g62}
theorem ev : EvA (env g33 g62) [] [0, 1] e (A (c g33 g62 some)) := fun x y => Eq.trans (b := (A (c g33 g62 fun r => some (e r))).G x y) (by kernel_rfl) (by simp only [A, c, bif_bind, sum_bind, oa, os, on, ofs])
end
def f (k : Nat) (a0 : ByteArray) (a1 : Int) (a2 : List D_api_Col) (a3 : ByteArray) : Option Int := c (transomref08_Find.f k) (transomref09_Names.f k) some a0 a1 a2 a3
noncomputable abbrev E (k : Nat) : FEnv := env (transomref08_Find.f k) (transomref09_Names.f k) 
theorem hE (k : Nat) : EnvOK (E k).toEnv := ctsOK (Lc (transomref08_Find.ok k) (Lc (transomref09_Names.ok k) L0))
theorem ok (k : Nat) : CtOK prog 35 (ct (f k)) := fn_ok func35 rfl (by decide) (hE k) L0 (Lc ev L0)
end transomref09_Find
namespace transomref07_Can
def e (r : Bool) : Res := ⟨.v (.one (.d .bool r)), []⟩
abbrev T (δ : Type) : Type := Int → Int → Option δ
abbrev A {δ : Type} (g : T δ) : Arm δ := ⟨[.d (.int .i64), .d (.int .i64)], [], fun x y => g x.1 x.2.1⟩
abbrev G : Type := T Bool
def ct (g : G) : Ct := mkCt 0 [] [A g] e
abbrev S0 (δ : Type) : Type := Int → Int → Bool → Option δ
abbrev A_0 {δ : Type} (s : S0 δ) : Arm δ := ⟨[.d (.int .i64), .d (.int .i64), .d .bool], [], fun x y => s x.1 x.2.1 x.2.2.1⟩
abbrev S1 (δ : Type) : Type := Int → Int → Option δ
abbrev A_1 {δ : Type} (s : S1 δ) : Arm δ := ⟨[.d (.int .i64), .d (.int .i64)], [], fun x y => s x.1 x.2.1⟩
def sg0 (s : S0 Bool) : Seg := mkSg [1, 0, 1] [] [0, 1, 18] [A_0 s] e
def sg1 (s : S1 Bool) : Seg := mkSg [1, 1] [] [0, 1] [A_1 s] e
section
variable {β : Type} (s0 : S0 Bool) (s1 : S1 Bool)
noncomputable abbrev env : FEnv := mkEnv prog f64 [] 0 [] [sg0 s0, sg1 s1]
def c (ret : Bool → Option β) (a0 : Int) (a1 : Int) : Option β := (bif (decide (a0 < (1 : Int))) then ((s0 a0 a1 true).bind ret) else (bif (decide (a0 > (5 : Int))) then ((s0 a0 a1 true).bind ret) else (bif (decide (a1 < (1 : Int))) then ((s0 a0 a1 true).bind ret) else ((s0 a0 a1 (decide (a1 > (5 : Int)))).bind ret))))
def s0c (ret : Bool → Option β) (x0 : Int) (x1 : Int) (x2 : Bool) : Option β := (bif x2 then (ret (false)) else ((s1 x0 x1).bind ret))
def s1c (ret : Bool → Option β) (x0 : Int) (x1 : Int) : Option β := (bif (x0 == (1 : Int)) then (ret ((x1 != (4 : Int)))) else (bif (x0 == (3 : Int)) then (ret ((x1 != (5 : Int)))) else (bif (x0 == (4 : Int)) then (ret ((x1 != (1 : Int)))) else (bif (x0 == (5 : Int)) then (ret ((x1 != (3 : Int)))) else (ret (true))))))
variable {s0} {s1}
theorem ev : EvA (env s0 s1) [] [0, 1] e (A (c s0 some)) := fun x y => Eq.trans (b := (A (c s0 fun r => some (e r))).G x y) (by kernel_rfl) (by simp only [A, c, bif_bind, sum_bind, oa, os, on, ofs])
theorem s0_ev : EvA (env s0 s1) [1, 0, 1] [0, 1, 18] e (A_0 (s0c s1 some)) := fun x y => Eq.trans (b := (A_0 (s0c s1 fun r => some (e r))).G x y) (by kernel_rfl) (by simp only [A_0, s0c, bif_bind, sum_bind, oa, os, on, ofs])
theorem s1_ev : EvA (env s0 s1) [1, 1] [0, 1] e (A_1 (s1c some)) := fun x y => Eq.trans (b := (A_1 (s1c fun r => some (e r))).G x y) (by kernel_rfl) (by simp only [A_1, s1c, bif_bind, sum_bind, oa, os, on, ofs])
end
mutual
def s0 : Nat → S0 Bool
  | 0, _, _, _ => none
  | k + 1, x0, x1, x2 => s0c (s1 k) some x0 x1 x2
def s1 : Nat → S1 Bool
  | 0, _, _ => none
  | k + 1, x0, x1 => s1c  some x0 x1
end
def f (k : Nat) (a0 : Int) (a1 : Int) : Option Bool := c (s0 k) some a0 a1
noncomputable abbrev E (k : Nat) : FEnv := env  (s0 k) (s1 k)
theorem hE (k : Nat) : EnvOK (E k).toEnv := ctsOK L0
theorem segs_ok : ∀ k, ∀ s ∈ [sg0 (s0 k), sg1 (s1 k)], SegB prog f64 0 s
  | 0 => (Lc (sg_none (Lc (fun _ _ => rfl) L0)) (Lc (sg_none (Lc (fun _ _ => rfl) L0)) L0))
  | k + 1 => (Lc (sg_ok (hE k) (segs_ok k) (Lc s0_ev L0)) (Lc (sg_ok (hE k) (segs_ok k) (Lc s1_ev L0)) L0))
theorem ok (k : Nat) : CtOK prog 64 (ct (f k)) := fn_ok func64 rfl (by decide) (hE k) (segs_ok k) (Lc ev L0)
end transomref07_Can
namespace transomref02_FromInt
abbrev R : Type := Int × Bool
def e (r : R) : Res := ⟨.tup [(.one (.d (.int .u64) r.1)), (.one (.d .bool r.2))], []⟩
abbrev T (δ : Type) : Type := Int → Option δ
abbrev A {δ : Type} (g : T δ) : Arm δ := ⟨[.d (.int .i64)], [], fun x y => g x.1⟩
abbrev G : Type := T R
def ct (g : G) : Ct := mkCt 0 [] [A g] e
abbrev S0 (δ : Type) : Type := Int → Int → Option δ
abbrev A_0 {δ : Type} (s : S0 δ) : Arm δ := ⟨[.d (.int .u64), .d (.int .u64)], [], fun x y => s x.1 x.2.1⟩
abbrev S1 (δ : Type) : Type := Int → Int → Int → Int → Option δ
abbrev A_1 {δ : Type} (s : S1 δ) : Arm δ := ⟨[.d (.int .u64), .d (.int .u64), .d (.int .i64), .d (.int .i64)], [], fun x y => s x.1 x.2.1 x.2.2.1 x.2.2.2.1⟩
abbrev S2 (δ : Type) : Type := Int → Int → Int → Int → Option δ
abbrev A_2 {δ : Type} (s : S2 δ) : Arm δ := ⟨[.d (.int .u64), .d (.int .u64), .d (.int .i64), .d (.int .i64)], [], fun x y => s x.1 x.2.1 x.2.2.1 x.2.2.2.1⟩
def sg0 (s : S0 R) : Seg := mkSg [1, 1, 1, 1, 1] [] [4, 5] [A_0 s] e
def sg1 (s : S1 R) : Seg := mkSg [4, 1, 0, 1, 1, 1, 1, 1, 1] [] [4, 5, 6, 7] [A_1 s] e
def sg2 (s : S2 R) : Seg := mkSg [1, 1, 5, 4, 1, 0, 1, 1, 1, 1, 1, 1] [] [4, 5, 6, 7] [A_2 s] e
section
variable {β : Type} (s0 : S0 R) (s1 : S1 R) (s2 : S2 R)
noncomputable abbrev env : FEnv := mkEnv prog f89 [] 0 [] [sg0 s0, sg1 s1, sg2 s2]
def c (ret : R → Option β) (a0 : Int) : Option β := (bif (a0 == (0 : Int)) then (ret ((0 : Int), true)) else (bif (decide (a0 < (0 : Int))) then ((s0 (9223372036854775808 : Int) (IntKind.wrap .u64 ((0 : Int) - (IntKind.wrap .u64 a0)))).bind ret) else ((s0 (0 : Int) (IntKind.wrap .u64 a0)).bind ret)))
def s0c (ret : R → Option β) (x0 : Int) (x1 : Int) : Option β := ((s1 x0 x1 (0 : Int) (0 : Int)).bind ret)
def s1c (ret : R → Option β) (x0 : Int) (x1 : Int) (x2 : Int) (x3 : Int) : Option β := (bif (decide (x3 < (64 : Int))) then (bif (decide ((0 : Int) ≤ (IntKind.wrap .u64 x3))) then (bif ((IntKind.wrap .u64 ((BitVec.toNat ((BitVec.ofInt (64 : Nat) (Int.fdiv x1 ((2 : Int) ^ (Min.min (Int.toNat (IntKind.wrap .u64 x3)) (64 : Nat))))) &&& (BitVec.ofInt (64 : Nat) (1 : Int)))) : Int)) == (1 : Int)) then ((s2 x0 x1 x3 x3).bind ret) else ((s2 x0 x1 x2 x3).bind ret)) else none) else (bif (decide (x2 > (52 : Int))) then (bif (decide ((0 : Int) ≤ (IntKind.wrap .u64 (IntKind.wrap .i64 (x2 - (52 : Int)))))) then (bif ((IntKind.wrap .u64 ((BitVec.toNat ((BitVec.ofInt (64 : Nat) x1) &&& (BitVec.ofInt (64 : Nat) (IntKind.wrap .u64 ((IntKind.wrap .u64 ((1 : Int) * ((2 : Int) ^ (Min.min (Int.toNat (IntKind.wrap .u64 (IntKind.wrap .i64 (x2 - (52 : Int))))) (64 : Nat))))) - (1 : Int)))))) : Int)) != (0 : Int)) then (ret ((0 : Int), false)) else (bif (decide ((0 : Int) ≤ (IntKind.wrap .u64 (IntKind.wrap .i64 (x2 - (52 : Int)))))) then (ret ((IntKind.wrap .u64 ((BitVec.toNat ((BitVec.ofInt (64 : Nat) (IntKind.wrap .u64 ((BitVec.toNat ((BitVec.ofInt (64 : Nat) x0) ||| (BitVec.ofInt (64 : Nat) (IntKind.wrap .u64 ((IntKind.wrap .u64 (IntKind.wrap .i64 (x2 + (1023 : Int)))) * (4503599627370496 : Int)))))) : Int))) ||| (BitVec.ofInt (64 : Nat) (IntKind.wrap .u64 ((BitVec.toNat ((BitVec.ofInt (64 : Nat) (Int.fdiv x1 ((2 : Int) ^ (Min.min (Int.toNat (IntKind.wrap .u64 (IntKind.wrap .i64 (x2 - (52 : Int))))) (64 : Nat))))) &&& (BitVec.ofInt (64 : Nat) (4503599627370495 : Int)))) : Int))))) : Int)), true)) else none)) else none) else (bif (decide ((0 : Int) ≤ (IntKind.wrap .u64 (IntKind.wrap .i64 ((52 : Int) - x2))))) then (ret ((IntKind.wrap .u64 ((BitVec.toNat ((BitVec.ofInt (64 : Nat) (IntKind.wrap .u64 ((BitVec.toNat ((BitVec.ofInt (64 : Nat) x0) ||| (BitVec.ofInt (64 : Nat) (IntKind.wrap .u64 ((IntKind.wrap .u64 (IntKind.wrap .i64 (x2 + (1023 : Int)))) * (4503599627370496 : Int)))))) : Int))) ||| (BitVec.ofInt (64 : Nat) (IntKind.wrap .u64 ((BitVec.toNat ((BitVec.ofInt (64 : Nat) (IntKind.wrap .u64 (x1 * ((2 : Int) ^ (Min.min (Int.toNat (IntKind.wrap .u64 (IntKind.wrap .i64 ((52 : Int) - x2)))) (64 : Nat)))))) &&& (BitVec.ofInt (64 : Nat) (4503599627370495 : Int)))) : Int))))) : Int)), true)) else none)))
def s2c (ret : R → Option β) (x0 : Int) (x1 : Int) (x2 : Int) (x3 : Int) : Option β := ((s1 x0 x1 x2 (IntKind.wrap .i64 (x3 + (1 : Int)))).bind ret)
variable {s0} {s1} {s2}
theorem ev : EvA (env s0 s1 s2) [] [0] e (A (c s0 some)) := fun x y => Eq.trans (b := (A (c s0 fun r => some (e r))).G x y) (by kernel_rfl) (by simp only [A, c, bif_bind, sum_bind, oa, os, on, ofs])
theorem s0_ev : EvA (env s0 s1 s2) [1, 1, 1, 1, 1] [4, 5] e (A_0 (s0c s1 some)) := fun x y => Eq.trans (b := (A_0 (s0c s1 fun r => some (e r))).G x y) (by kernel_rfl) (by simp only [A_0, s0c, bif_bind, sum_bind, oa, os, on, ofs])
theorem s1_ev : EvA (env s0 s1 s2) [4, 1, 0, 1, 1, 1, 1, 1, 1] [4, 5, 6, 7] e (A_1 (s1c s2 some)) := fun x y => Eq.trans (b := (A_1 (s1c s2 fun r => some (e r))).G x y) (by kernel_rfl) (by simp only [A_1, s1c, bif_bind, sum_bind, oa, os, on, ofs])
theorem s2_ev : EvA (env s0 s1 s2) [1, 1, 5, 4, 1, 0, 1, 1, 1, 1, 1, 1] [4, 5, 6, 7] e (A_2 (s2c s1 some)) := fun x y => Eq.trans (b := (A_2 (s2c s1 fun r => some (e r))).G x y) (by kernel_rfl) (by simp only [A_2, s2c, bif_bind, sum_bind, oa, os, on, ofs])
end
mutual
def s0 : Nat → S0 R
  | 0, _, _ => none
  | k + 1, x0, x1 => s0c (s1 k) some x0 x1
def s1 : Nat → S1 R
  | 0, _, _, _, _ => none
  | k + 1, x0, x1, x2, x3 => s1c (s2 k) some x0 x1 x2 x3
def s2 : Nat → S2 R
  | 0, _, _, _, _ => none
  | k + 1, x0, x1, x2, x3 => s2c (s1 k) some x0 x1 x2 x3
end
def f (k : Nat) (a0 : Int) : Option R := c (s0 k) some a0
noncomputable abbrev E (k : Nat) : FEnv := env  (s0 k) (s1 k) (s2 k)
theorem hE (k : Nat) : EnvOK (E k).toEnv := ctsOK L0
theorem segs_ok : ∀ k, ∀ s ∈ [sg0 (s0 k), sg1 (s1 k), sg2 (s2 k)], SegB prog f89 0 s
  | 0 => (Lc (sg_none (Lc (fun _ _ => rfl) L0)) (Lc (sg_none (Lc (fun _ _ => rfl) L0)) (Lc (sg_none (Lc (fun _ _ => rfl) L0)) L0)))
  | k + 1 => (Lc (sg_ok (hE k) (segs_ok k) (Lc s0_ev L0)) (Lc (sg_ok (hE k) (segs_ok k) (Lc s1_ev L0)) (Lc (sg_ok (hE k) (segs_ok k) (Lc s2_ev L0)) L0)))
theorem ok (k : Nat) : CtOK prog 89 (ct (f k)) := fn_ok func89 rfl (by decide) (hE k) (segs_ok k) (Lc ev L0)
end transomref02_FromInt
namespace transomref07_fromBool
abbrev R : Type := Int × Int × Int × ByteArray × Int
def e (r : R) : Res := ⟨.tup [(.agg [(.d (.int .i64) r.1), (.d (.int .i64) r.2.1), (.d (.int .u64) r.2.2.1), (.d .str r.2.2.2.1)]), (.one (.d (.int .i64) r.2.2.2.2))], []⟩
abbrev T (δ : Type) : Type := Int → Int → Option δ
abbrev A {δ : Type} (g : T δ) : Arm δ := ⟨[.d (.int .i64), .d (.int .i64)], [], fun x y => g x.1 x.2.1⟩
abbrev G : Type := T R
def ct (g : G) : Ct := mkCt 0 [] [A g] e
section
variable {β : Type} (g89 : transomref02_FromInt.G)
noncomputable abbrev env : FEnv := mkEnv prog f65 [(89, transomref02_FromInt.ct g89)] 0 [] []
def c (ret : R → Option β) (a0 : Int) (a1 : Int) : Option β := (bif (a1 == (2 : Int)) then (ret (a1, a0, (0 : Int), (ByteArray.mk (List.toArray [])), (0 : Int))) else (bif (a1 == (3 : Int)) then ((g89 a0).bind fun r0 => (ret (a1, (0 : Int), r0.1, (ByteArray.mk (List.toArray [])), (0 : Int)))) else (bif (a0 == (1 : Int)) then (ret (a1, (0 : Int), (0 : Int), (ByteArray.mk (List.toArray [(116 : UInt8), (114 : UInt8), (117 : UInt8), (101 : UInt8)])), (0 : Int))) else (ret (a1, (0 : Int), (0 : Int), (ByteArray.mk (List.toArray [(102 : UInt8), (97 : UInt8), (108 : UInt8), (115 : UInt8), (101 : UInt8)])), (0 : Int))))))
variable {g89}
theorem ev : EvA (env g89) [] [0, 1] e (A (c g89 some)) := fun x y => Eq.trans (b := (A (c g89 fun r => some (e r))).G x y) (by kernel_rfl) (by simp only [A, c, bif_bind, sum_bind, oa, os, on, ofs])
end
def f (k : Nat) (a0 : Int) (a1 : Int) : Option R := c (transomref02_FromInt.f k) some a0 a1
noncomputable abbrev E (k : Nat) : FEnv := env (transomref02_FromInt.f k) 
theorem hE (k : Nat) : EnvOK (E k).toEnv := ctsOK (Lc (transomref02_FromInt.ok k) L0)
theorem ok (k : Nat) : CtOK prog 65 (ct (f k)) := fn_ok func65 rfl (by decide) (hE k) L0 (Lc ev L0)
end transomref07_fromBool
namespace transomref07_truth
abbrev R : Type := Int × Int × Int × ByteArray × Int
def e (r : R) : Res := ⟨.tup [(.agg [(.d (.int .i64) r.1), (.d (.int .i64) r.2.1), (.d (.int .u64) r.2.2.1), (.d .str r.2.2.2.1)]), (.one (.d (.int .i64) r.2.2.2.2))], []⟩
abbrev T (δ : Type) : Type := Int → Option δ
abbrev A {δ : Type} (g : T δ) : Arm δ := ⟨[.d (.int .i64)], [], fun x y => g x.1⟩
abbrev G : Type := T R
def ct (g : G) : Ct := mkCt 0 [] [A g] e
section
variable {β : Type} 
noncomputable abbrev env : FEnv := mkEnv prog f90 [] 0 [] []
def c (ret : R → Option β) (a0 : Int) : Option β := (bif (a0 != (0 : Int)) then (bif (a0 != (1 : Int)) then (ret ((0 : Int), (0 : Int), (0 : Int), (ByteArray.mk (List.toArray [])), (6 : Int))) else (ret ((1 : Int), a0, (0 : Int), (ByteArray.mk (List.toArray [])), (0 : Int)))) else (ret ((1 : Int), a0, (0 : Int), (ByteArray.mk (List.toArray [])), (0 : Int))))
theorem ev : EvA (env) [] [0] e (A (c some)) := fun x y => Eq.trans (b := (A (c fun r => some (e r))).G x y) (by kernel_rfl) (by simp only [A, c, bif_bind, sum_bind, oa, os, on, ofs])
end
def f (k : Nat) (a0 : Int) : Option R := c  some a0
noncomputable abbrev E (k : Nat) : FEnv := env  
theorem hE (k : Nat) : EnvOK (E k).toEnv := ctsOK L0
theorem ok (k : Nat) : CtOK prog 90 (ct (f k)) := fn_ok func90 rfl (by decide) (hE k) L0 (Lc ev L0)
end transomref07_truth
namespace transomref05_Eight
def e (r : ByteArray) : Res := ⟨.v (.one (.d .str r)), []⟩
abbrev T (δ : Type) : Type := Int → Option δ
abbrev A {δ : Type} (g : T δ) : Arm δ := ⟨[.d (.int .u64)], [], fun x y => g x.1⟩
abbrev G : Type := T ByteArray
def ct (g : G) : Ct := mkCt 0 [] [A g] e
abbrev S0 (δ : Type) : Type := Int → Int → (List Int) → Option δ
abbrev A_0 {δ : Type} (s : S0 δ) : Arm δ := ⟨[.d (.int .u64), .k (.own 0), .d (.int .i64)], [.own (.int .u8) false], fun x y => s x.1 x.2.2.1 y.1⟩
def sg0 (s : S0 ByteArray) : Seg := mkSg [4, 1, 0, 1, 1] [.own 3 (.int .u8)] [0, 3, 4] [A_0 s] e
section
variable {β : Type} (s0 : S0 ByteArray)
noncomputable abbrev env : FEnv := mkEnv prog f91 [] 0 [] [sg0 s0]
def c (ret : ByteArray → Option β) (a0 : Int) : Option β := ((s0 a0 (0 : Int) []).bind ret)
def s0c (ret : ByteArray → Option β) (x0 : Int) (x1 : Int) (x2 : List Int) : Option β := (bif (decide (x1 < (8 : Int))) then (bif (decide ((0 : Int) ≤ (IntKind.wrap .u64 (IntKind.wrap .i64 ((56 : Int) - (IntKind.wrap .i64 ((8 : Int) * x1))))))) then (bif (decide (((x2.length + (1 : Nat)) * (1 : Nat)) ≤ (35184372088832 : Nat))) then ((s0 x0 (IntKind.wrap .i64 (x1 + (1 : Int))) (x2 ++ [(IntKind.wrap .u8 (Int.fdiv x0 ((2 : Int) ^ (Min.min (Int.toNat (IntKind.wrap .u64 (IntKind.wrap .i64 ((56 : Int) - (IntKind.wrap .i64 ((8 : Int) * x1)))))) (64 : Nat)))))])).bind ret) else none) else none) else (ret ((ByteArray.mk (List.toArray (List.map (fun n => (UInt8.ofNat (Int.toNat n))) x2))))))
variable {s0}
theorem ev : EvA (env s0) [] [0] e (A (c s0 some)) := fun x y => Eq.trans (b := (A (c s0 fun r => some (e r))).G x y) (by kernel_rfl) (by simp only [A, c, bif_bind, sum_bind, oa, os, on, ofs])
theorem s0_ev : EvA (env s0) [4, 1, 0, 1, 1] [0, 3, 4] e (A_0 (s0c s0 some)) := fun x y => Eq.trans (b := (A_0 (s0c s0 fun r => some (e r))).G x y) (by kernel_rfl) (by simp only [A_0, s0c, bif_bind, sum_bind, oa, os, on, ofs])
end
def s0 : Nat → S0 ByteArray
  | 0, _, _, _ => none
  | k + 1, x0, x1, x2 => s0c (s0 k) some x0 x1 x2
def f (k : Nat) (a0 : Int) : Option ByteArray := c (s0 k) some a0
noncomputable abbrev E (k : Nat) : FEnv := env  (s0 k)
theorem hE (k : Nat) : EnvOK (E k).toEnv := ctsOK L0
theorem segs_ok : ∀ k, ∀ s ∈ [sg0 (s0 k)], SegB prog f91 0 s
  | 0 => (Lc (sg_none (Lc (fun _ _ => rfl) L0)) L0)
  | k + 1 => (Lc (sg_ok (hE k) (segs_ok k) (Lc s0_ev L0)) L0)
theorem ok (k : Nat) : CtOK prog 91 (ct (f k)) := fn_ok func91 rfl (by decide) (hE k) (segs_ok k) (Lc ev L0)
end transomref05_Eight
end Go.Proofs.YtijjlpgcpdapnaaGreatDoor.Aev
