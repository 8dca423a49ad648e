import Derived.Test.YtijjlpgcpdapnaaGreatDoorTys
import Derived.Test.YtijjlpgcpdapnaaGreatDoorProg
import Derived.Laws.Externs
import Derived.Lib.Bytealg
import Derived.Test.YtijjlpgcpdapnaaGreatDoorF0
import Derived.Test.YtijjlpgcpdapnaaGreatDoorF1
/- By a program of this session (AEV): functions of the program as plain functions, and that the machine does what they say. -/
namespace Go.Proofs.YtijjlpgcpdapnaaGreatDoor.Aev
set_option linter.unusedVariables false
set_option linter.unusedSimpArgs false
set_option maxRecDepth 100000
set_option maxHeartbeats 4000000
open Go Go.Proofs.Tryz
namespace names_count
def e (r : Int) : Res := ⟨.v (.one (.d (.int .i64) r)), []⟩
abbrev T (δ : Type) : Type := ByteArray → (List ByteArray) → Option δ
abbrev A {δ : Type} (g : T δ) : Arm δ := ⟨[.d .str, .d (.sl .str)], [], fun x y => g x.1 x.2.1⟩
abbrev G : Type := T Int
def ct (g : G) : Ct := mkCt 0 [] [A g] e
abbrev S0 (δ : Type) : Type := ByteArray → Int → (List ByteArray) → Int → Int → Option δ
abbrev A_0 {δ : Type} (s : S0 δ) : Arm δ := ⟨[.d .str, .d (.int .i64), .d (.sl .str), .d (.int .i64), .d (.int .i64)], [], fun x y => s x.1 x.2.1 x.2.2.1 x.2.2.2.1 x.2.2.2.2.1⟩
abbrev S1 (δ : Type) : Type := ByteArray → Int → (List ByteArray) → Int → Int → Option δ
abbrev A_1 {δ : Type} (s : S1 δ) : Arm δ := ⟨[.d .str, .d (.int .i64), .d (.sl .str), .d (.int .i64), .d (.int .i64)], [], fun x y => s x.1 x.2.1 x.2.2.1 x.2.2.2.1 x.2.2.2.2.1⟩
def sg0 (s : S0 Int) : Seg := mkSg [4, 1, 0, 1, 1] [] [0, 5, 8, 9, 10] [A_0 s] e
def sg1 (s : S1 Int) : Seg := mkSg [1, 1, 1, 5, 4, 1, 0, 1, 1] [] [0, 5, 8, 9, 10] [A_1 s] e
section
variable {β : Type} (s0 : S0 Int) (s1 : S1 Int)
noncomputable abbrev env : FEnv := mkEnv prog f119 [] 0 [] [sg0 s0, sg1 s1]
def c (ret : Int → Option β) (a0 : ByteArray) (a1 : List ByteArray) : Option β := ((s0 a0 (0 : Int) a1 (a1.length : Int) (0 : Int)).bind ret)
def s0c (ret : Int → Option β) (x0 : ByteArray) (x1 : Int) (x2 : List ByteArray) (x3 x4 : Int) : Option β := (bif (decide (x4 < x3)) then (bif ((decide ((0 : Int) ≤ x4)) && (decide (x4 < (x2.length : Int)))) then (bif ((ByteArray.toList (elem Ty.str x2 x4)) == x0.toList) then ((s1 x0 (IntKind.wrap .i64 (x1 + (1 : Int))) x2 x3 x4).bind ret) else ((s1 x0 x1 x2 x3 x4).bind ret)) else none) else (ret (x1)))
def s1c (ret : Int → Option β) (x0 : ByteArray) (x1 : Int) (x2 : List ByteArray) (x3 x4 : Int) : Option β := ((s0 x0 x1 x2 x3 (IntKind.wrap .i64 (x4 + (1 : Int)))).bind ret)
variable {s0} {s1}
theorem ev : EvA (env s0 s1) [] [0, 1] e (A (c s0 some)) := fun x y => Eq.trans (b := (A (c s0 fun r => some (e r))).G x y) (by kernel_rfl) (by simp only [A, c, bo, so, oa, os, on, ofs])
theorem s0_ev : EvA (env s0 s1) [4, 1, 0, 1, 1] [0, 5, 8, 9, 10] e (A_0 (s0c s1 some)) := fun x y => Eq.trans (b := (A_0 (s0c s1 fun r => some (e r))).G x y) (by kernel_rfl) (by simp only [A_0, s0c, bo, so, oa, os, on, ofs])
theorem s1_ev : EvA (env s0 s1) [1, 1, 1, 5, 4, 1, 0, 1, 1] [0, 5, 8, 9, 10] e (A_1 (s1c s0 some)) := fun x y => Eq.trans (b := (A_1 (s1c s0 fun r => some (e r))).G x y) (by kernel_rfl) (by simp only [A_1, s1c, bo, so, oa, os, on, ofs])
end
mutual
def s0 : Nat → S0 Int
 | 0, _, _, _, _, _ => none
 | k + 1, x0, x1, x2, x3, x4 => s0c (s1 k) some x0 x1 x2 x3 x4
def s1 : Nat → S1 Int
 | 0, _, _, _, _, _ => none
 | k + 1, x0, x1, x2, x3, x4 => s1c (s0 k) some x0 x1 x2 x3 x4
end
def f (k : Nat) (a0 : ByteArray) (a1 : List ByteArray) : Option Int := c (s0 k) some a0 a1
noncomputable abbrev E (k : Nat) : FEnv := env  (s0 k) (s1 k)
theorem hE (k : Nat) : EnvOK (E k).toEnv := ctsOK L0
theorem sk : ∀ k, ∀ s ∈ [sg0 (s0 k), sg1 (s1 k)], SegB prog f119 0 s
 | 0 => (Lc (sn (Lc (fun _ _ => rfl) L0)) (Lc (sn (Lc (fun _ _ => rfl) L0)) L0))
 | k + 1 => (Lc (sg_ok (hE k) (sk k) (Lc s0_ev L0)) (Lc (sg_ok (hE k) (sk k) (Lc s1_ev L0)) L0))
theorem ok (k : Nat) : CtOK prog 119 (ct (f k)) := fn_ok func119 rfl (by decide) (hE k) (sk k) (Lc ev L0)
end names_count
namespace names_Unlike
def e (r : Bool) : Res := ⟨.v (.one (.d .bool r)), []⟩
abbrev T (δ : Type) : Type := (List ByteArray) → Option δ
abbrev A {δ : Type} (g : T δ) : Arm δ := ⟨[.d (.sl .str)], [], fun x y => g x.1⟩
abbrev G : Type := T Bool
def ct (g : G) : Ct := mkCt 0 [] [A g] e
abbrev S0 (δ : Type) : Type := (List ByteArray) → (List ByteArray) → Int → Int → Option δ
abbrev A_0 {δ : Type} (s : S0 δ) : Arm δ := ⟨[.d (.sl .str), .d (.sl .str), .d (.int .i64), .d (.int .i64)], [], fun x y => s x.1 x.2.1 x.2.2.1 x.2.2.2.1⟩
def sg0 (s : S0 Bool) : Seg := mkSg [4, 1, 0, 1] [] [0, 5, 6, 7] [A_0 s] e
section
variable {β : Type} (g119 : names_count.G) (s0 : S0 Bool)
noncomputable abbrev env : FEnv := mkEnv prog f100 [(119, names_count.ct g119)] 0 [] [sg0 s0]
def c (ret : Bool → Option β) (a0 : List ByteArray) : Option β := ((s0 a0 a0 (a0.length : Int) (0 : Int)).bind ret)
def s0c (ret : Bool → Option β) (x0 x1 : List ByteArray) (x2 x3 : Int) : Option β := (bif (decide (x3 < x2)) then (bif ((decide ((0 : Int) ≤ x3)) && (decide (x3 < (x1.length : Int)))) then ((g119 (elem Ty.str x1 x3) x0).bind fun r0 => (bif (decide (r0 > (1 : Int))) then (ret (false)) else ((s0 x0 x1 x2 (IntKind.wrap .i64 (x3 + (1 : Int)))).bind ret))) else none) else (ret (true)))
variable {g119} {s0}
theorem ev : EvA (env g119 s0) [] [0] e (A (c s0 some)) := fun x y => Eq.trans (b := (A (c s0 fun r => some (e r))).G x y) (by kernel_rfl) (by simp only [A, c, bo, so, oa, os, on, ofs])
theorem s0_ev : EvA (env g119 s0) [4, 1, 0, 1] [0, 5, 6, 7] e (A_0 (s0c g119 s0 some)) := fun x y => Eq.trans (b := (A_0 (s0c g119 s0 fun r => some (e r))).G x y) (by kernel_rfl) (by simp only [A_0, s0c, bo, so, oa, os, on, ofs])
end
def s0 : Nat → S0 Bool
 | 0, _, _, _, _ => none
 | k + 1, x0, x1, x2, x3 => s0c (names_count.f k) (s0 k) some x0 x1 x2 x3
def f (k : Nat) (a0 : List ByteArray) : Option Bool := c (s0 k) some a0
noncomputable abbrev E (k : Nat) : FEnv := env (names_count.f k) (s0 k)
theorem hE (k : Nat) : EnvOK (E k).toEnv := ctsOK (Lc (names_count.ok k) L0)
theorem sk : ∀ k, ∀ s ∈ [sg0 (s0 k)], SegB prog f100 0 s
 | 0 => (Lc (sn (Lc (fun _ _ => rfl) L0)) L0)
 | k + 1 => (Lc (sg_ok (hE k) (sk k) (Lc s0_ev L0)) L0)
theorem ok (k : Nat) : CtOK prog 100 (ct (f k)) := fn_ok func100 rfl (by decide) (hE k) (sk k) (Lc ev L0)
end names_Unlike
namespace schema_table_1
def e (r : Bool) : Res := ⟨.v (.one (.d .bool r)), []⟩
abbrev T (δ : Type) : Type := ByteArray → Int → Bool → Int → Int → Int → ByteArray → Option δ
abbrev A {δ : Type} (g : T δ) : Arm δ := ⟨[.s T_api_Col], [], fun x y => g x.1.1.1 x.1.1.2.1 x.1.1.2.2.1 x.1.1.2.2.2.1.1 x.1.1.2.2.2.1.2.1 x.1.1.2.2.2.1.2.2.1 x.1.1.2.2.2.1.2.2.2.1⟩
abbrev G : Type := T Bool
def ct (g : G) : Ct := mkCt 0 [] [A g] e
section
variable {β : Type} 
noncomputable abbrev env : FEnv := mkEnv prog f102 [] 0 [] []
def c (ret : Bool → Option β) (a0 : ByteArray) (a1 : Int) (a2 : Bool) (a3 a4 a5 : Int) (a6 : ByteArray) : Option β := (ret (a2))
theorem ev : EvA (env) [] [0] e (A (c some)) := fun x y => Eq.trans (b := (A (c fun r => some (e r))).G x y) (by kernel_rfl) (by simp only [A, c, bo, so, oa, os, on, ofs])
end
def f (k : Nat) (a0 : ByteArray) (a1 : Int) (a2 : Bool) (a3 a4 a5 : Int) (a6 : ByteArray) : Option Bool := c  some a0 a1 a2 a3 a4 a5 a6
noncomputable abbrev E (k : Nat) : FEnv := env  
theorem hE (k : Nat) : EnvOK (E k).toEnv := ctsOK L0
theorem ok (k : Nat) : CtOK prog 102 (ct (f k)) := fn_ok func102 rfl (by decide) (hE k) L0 (Lc ev L0)
end schema_table_1
namespace api_Col_120
def e (r : Int) : Res := ⟨.v (.one (.d (.int .i64) r)), []⟩
abbrev T (δ : Type) : Type := (List D_api_Col) → Option δ
abbrev A {δ : Type} (g : T δ) : Arm δ := ⟨[.d (.sl T_api_Col), .k (.fn 102 [])], [], fun x y => g x.1⟩
abbrev G : Type := T Int
def ct (g : G) : Ct := mkCt 0 [] [A g] e
abbrev S0 (δ : Type) : Type := (List D_api_Col) → Int → Int → Option δ
abbrev A_0 {δ : Type} (s : S0 δ) : Arm δ := ⟨[.d (.sl T_api_Col), .k (.fn 102 []), .d (.int .i64), .d (.int .i64)], [], fun x y => s x.1 x.2.2.1 x.2.2.2.1⟩
def sg0 (s : S0 Int) : Seg := mkSg [4, 1, 0, 1] [] [0, 1, 7, 8] [A_0 s] e
section
variable {β : Type} (g102 : schema_table_1.G) (s0 : S0 Int)
noncomputable abbrev env : FEnv := mkEnv prog f120 [(102, schema_table_1.ct g102)] 0 [] [sg0 s0]
def c (ret : Int → Option β) (a0 : List D_api_Col) : Option β := ((s0 a0 (a0.length : Int) (0 : Int)).bind ret)
def s0c (ret : Int → Option β) (x0 : List D_api_Col) (x1 x2 : Int) : Option β := (bif (decide (x2 < x1)) then (bif ((decide ((0 : Int) ≤ x2)) && (decide (x2 < (x0.length : Int)))) then ((g102 (elem T_api_Col x0 x2).1 (elem T_api_Col x0 x2).2.1 (elem T_api_Col x0 x2).2.2.1 (elem T_api_Col x0 x2).2.2.2.1.1 (elem T_api_Col x0 x2).2.2.2.1.2.1 (elem T_api_Col x0 x2).2.2.2.1.2.2.1 (elem T_api_Col x0 x2).2.2.2.1.2.2.2.1).bind fun r0 => (bif r0 then (ret (x2)) else ((s0 x0 x1 (IntKind.wrap .i64 (x2 + (1 : Int)))).bind ret))) else none) else (ret ((-1 : Int))))
variable {g102} {s0}
theorem ev : EvA (env g102 s0) [] [0, 1] e (A (c s0 some)) := fun x y => Eq.trans (b := (A (c s0 fun r => some (e r))).G x y) (by kernel_rfl) (by simp only [A, c, bo, so, oa, os, on, ofs])
theorem s0_ev : EvA (env g102 s0) [4, 1, 0, 1] [0, 1, 7, 8] e (A_0 (s0c g102 s0 some)) := fun x y => Eq.trans (b := (A_0 (s0c g102 s0 fun r => some (e r))).G x y) (by kernel_rfl) (by simp only [A_0, s0c, bo, so, oa, os, on, ofs])
end
def s0 : Nat → S0 Int
 | 0, _, _, _ => none
 | k + 1, x0, x1, x2 => s0c (schema_table_1.f k) (s0 k) some x0 x1 x2
def f (k : Nat) (a0 : List D_api_Col) : Option Int := c (s0 k) some a0
noncomputable abbrev E (k : Nat) : FEnv := env (schema_table_1.f k) (s0 k)
theorem hE (k : Nat) : EnvOK (E k).toEnv := ctsOK (Lc (schema_table_1.ok k) L0)
theorem sk : ∀ k, ∀ s ∈ [sg0 (s0 k)], SegB prog f120 0 s
 | 0 => (Lc (sn (Lc (fun _ _ => rfl) L0)) L0)
 | k + 1 => (Lc (sg_ok (hE k) (sk k) (Lc s0_ev L0)) L0)
theorem ok (k : Nat) : CtOK prog 120 (ct (f k)) := fn_ok func120 rfl (by decide) (hE k) (sk k) (Lc ev L0)
end api_Col_120
namespace api_Col_101
def e (r : Bool) : Res := ⟨.v (.one (.d .bool r)), []⟩
abbrev T (δ : Type) : Type := (List D_api_Col) → Option δ
abbrev A {δ : Type} (g : T δ) : Arm δ := ⟨[.d (.sl T_api_Col), .k (.fn 102 [])], [], fun x y => g x.1⟩
abbrev G : Type := T Bool
def ct (g : G) : Ct := mkCt 0 [] [A g] e
section
variable {β : Type} (g102 : schema_table_1.G) (g120 : api_Col_120.G)
noncomputable abbrev env : FEnv := mkEnv prog f101 [(102, schema_table_1.ct g102), (120, api_Col_120.ct g120)] 0 [] []
def c (ret : Bool → Option β) (a0 : List D_api_Col) : Option β := ((g120 a0).bind fun r0 => (ret ((decide (r0 ≥ (0 : Int))))))
variable {g102} {g120}
theorem ev : EvA (env g102 g120) [] [0, 1] e (A (c g120 some)) := fun x y => Eq.trans (b := (A (c g120 fun r => some (e r))).G x y) (by kernel_rfl) (by simp only [A, c, bo, so, oa, os, on, ofs])
end
def f (k : Nat) (a0 : List D_api_Col) : Option Bool := c (api_Col_120.f k) some a0
noncomputable abbrev E (k : Nat) : FEnv := env (schema_table_1.f k) (api_Col_120.f k) 
theorem hE (k : Nat) : EnvOK (E k).toEnv := ctsOK (Lc (schema_table_1.ok k) (Lc (api_Col_120.ok k) L0))
theorem ok (k : Nat) : CtOK prog 101 (ct (f k)) := fn_ok func101 rfl (by decide) (hE k) L0 (Lc ev L0)
end api_Col_101
namespace schema_table
abbrev R : Type := ((Int × Unit)) ⊕ Unit
def e (r : R) : Res := Sum.elim (fun r =>  ⟨.v (.one (.ifc 140 true (.pair (.int .i64) .unit) r)), []⟩) (fun r =>  ⟨.v (.one (.raw (.nilIface))), []⟩) r
abbrev T (δ : Type) : Type := ByteArray → Int → (List D_api_Col) → Option δ
abbrev A {δ : Type} (g : T δ) : Arm δ := ⟨[.s T_api_Table], [], fun x y => g x.1.1.1 x.1.1.2.1 x.1.1.2.2.1⟩
abbrev G : Type := T R
def ek {β : Type} (r : R) (K : Res → Option β) : Option β := Sum.elim (fun r => K ⟨.v (.one (.ifc 140 true (.pair (.int .i64) .unit) r)), []⟩) (fun r => K ⟨.v (.one (.raw (.nilIface))), []⟩) r
theorem hk {β : Type} (r : R) (K : Res → Option β) : ek r K = K (e r) := by rcases r with _ | _ <;> rfl
def ct (g : G) : Ct := mkCtS 0 [] [A g] e ek hk
abbrev S0 (δ : Type) : Type := Bool → ByteArray → Int → (List D_api_Col) → Option δ
abbrev A_0 {δ : Type} (s : S0 δ) : Arm δ := ⟨[.k (.ptr 0 0), .d .bool], [.box [.g T_api_Table]], fun x y => s x.2.1 y.1.1.1 y.1.1.2.1 y.1.1.2.2.1⟩
abbrev S1 (δ : Type) : Type := ByteArray → Int → (List D_api_Col) → Option δ
abbrev A_1 {δ : Type} (s : S1 δ) : Arm δ := ⟨[.k (.ptr 0 0)], [.box [.g T_api_Table]], fun x y => s y.1.1.1 y.1.1.2.1 y.1.1.2.2.1⟩
abbrev S2 (δ : Type) : Type := Bool → ByteArray → Int → (List D_api_Col) → Option δ
abbrev A_2 {δ : Type} (s : S2 δ) : Arm δ := ⟨[.k (.ptr 0 0), .d .bool], [.box [.g T_api_Table]], fun x y => s x.2.1 y.1.1.1 y.1.1.2.1 y.1.1.2.2.1⟩
abbrev S3 (δ : Type) : Type := ByteArray → Int → (List D_api_Col) → Option δ
abbrev A_3 {δ : Type} (s : S3 δ) : Arm δ := ⟨[.k (.ptr 0 0)], [.box [.g T_api_Table]], fun x y => s y.1.1.1 y.1.1.2.1 y.1.1.2.2.1⟩
abbrev S4 (δ : Type) : Type := (List D_api_Col) → Int → Int → ByteArray → Int → (List D_api_Col) → Option δ
abbrev A_4 {δ : Type} (s : S4 δ) : Arm δ := ⟨[.k (.ptr 0 0), .d (.sl T_api_Col), .d (.int .i64), .d (.int .i64)], [.box [.g T_api_Table]], fun x y => s x.2.1 x.2.2.1 x.2.2.2.1 y.1.1.1 y.1.1.2.1 y.1.1.2.2.1⟩
def sg0 (s : S0 R) : Seg := mkSg [1, 0, 1, 1] [] [1, 24] [A_0 s] e
def sg1 (s : S1 R) : Seg := mkSg [1, 1, 1] [] [1] [A_1 s] e
def sg2 (s : S2 R) : Seg := mkSg [1, 0, 1, 1, 1] [] [1, 38] [A_2 s] e
def sg3 (s : S3 R) : Seg := mkSg [1, 1, 1, 1] [] [1] [A_3 s] e
def sg4 (s : S4 R) : Seg := mkSg [4, 1, 0, 1, 1, 1, 1] [] [1, 42, 43, 44] [A_4 s] e
section
variable {β : Type} (g50 : schema_words.G) (g98 : names_Check.G) (g99 : schema_col.G) (g100 : names_Unlike.G) (g101 : api_Col_101.G) (g102 : schema_table_1.G) (s0 : S0 R) (s1 : S1 R) (s2 : S2 R) (s3 : S3 R) (s4 : S4 R)
noncomputable abbrev env : FEnv := mkEnv prog f72 [(50, schema_words.ct g50), (98, names_Check.ct g98), (99, schema_col.ct g99), (100, names_Unlike.ct g100), (101, api_Col_101.ct g101), (102, schema_table_1.ct g102)] 0 [] [sg0 s0, sg1 s1, sg2 s2, sg3 s3, sg4 s4]
def c (ret : R → Option β) (a0 : ByteArray) (a1 : Int) (a2 : List D_api_Col) : Option β := ((g98 a0).bind fun r0 => (bif (r0 != (0 : Int)) then (ret (.inl ((r0, ())))) else (bif (decide ((a2.length : Int) < (1 : Int))) then ((s0 true a0 a1 a2).bind ret) else ((s0 (decide ((a2.length : Int) > (8 : Int))) a0 a1 a2).bind ret))))
def s0c (ret : R → Option β) (x0 : Bool) (x1 : ByteArray) (x2 : Int) (x3 : List D_api_Col) : Option β := (bif x0 then (ret (.inl (((2 : Int), ())))) else ((s1 x1 x2 x3).bind ret))
def s1c (ret : R → Option β) (x0 : ByteArray) (x1 : Int) (x2 : List D_api_Col) : Option β := (bif (decide (x1 < (1 : Int))) then ((s2 true x0 x1 x2).bind ret) else ((s2 (decide (x1 > (if ((x2.length : Int) < (3 : Int)) then (x2.length : Int) else (3 : Int)))) x0 x1 x2).bind ret))
def s2c (ret : R → Option β) (x0 : Bool) (x1 : ByteArray) (x2 : Int) (x3 : List D_api_Col) : Option β := (bif x0 then (ret (.inl (((1 : Int), ())))) else ((s3 x1 x2 x3).bind ret))
def s3c (ret : R → Option β) (x0 : ByteArray) (x1 : Int) (x2 : List D_api_Col) : Option β := ((s4 x2 (x2.length : Int) (0 : Int) x0 x1 x2).bind ret)
def s4c (ret : R → Option β) (x0 : List D_api_Col) (x1 x2 : Int) (x3 : ByteArray) (x4 : Int) (x5 : List D_api_Col) : Option β := (bif (decide (x2 < x1)) then (bif ((decide ((0 : Int) ≤ x2)) && (decide (x2 < (x0.length : Int)))) then ((g99 (elem T_api_Col x0 x2).1 (elem T_api_Col x0 x2).2.1 (elem T_api_Col x0 x2).2.2.1 (elem T_api_Col x0 x2).2.2.2.1.1 (elem T_api_Col x0 x2).2.2.2.1.2.1 (elem T_api_Col x0 x2).2.2.2.1.2.2.1 (elem T_api_Col x0 x2).2.2.2.1.2.2.2.1).bind fun r0 => (Sum.elim (fun r1 => (ret (.inl (r1)))) (fun r2 => ((s4 x0 x1 (IntKind.wrap .i64 (x2 + (1 : Int))) x3 x4 x5).bind ret)) r0)) else none) else ((g50 x5).bind fun r3 => ((g100 r3).bind fun r4 => (bif (!r4) then (ret (.inl (((12 : Int), ())))) else (bif ((true && (decide ((0 : Int) ≤ x4))) && (decide (x4 ≤ (x5.length : Int)))) then ((g101 (List.take ((Int.toNat x4) - (0 : Nat)) (List.drop (0 : Nat) x5))).bind fun r5 => (bif r5 then (ret (.inl (((11 : Int), ())))) else (ret (.inr ())))) else none)))))
variable {g50} {g98} {g99} {g100} {g101} {g102} {s0} {s1} {s2} {s3} {s4}
theorem ev : EvA (env g50 g98 g99 g100 g101 g102 s0 s1 s2 s3 s4) [] [0] e (A (c g98 s0 some)) := fun x y => Eq.trans (b := (A (c g98 s0 fun r => some (e r))).G x y) (by kernel_rfl) (by simp only [A, c, bo, so, oa, os, on, ofs])
theorem s0_ev : EvA (env g50 g98 g99 g100 g101 g102 s0 s1 s2 s3 s4) [1, 0, 1, 1] [1, 24] e (A_0 (s0c s1 some)) := fun x y => Eq.trans (b := (A_0 (s0c s1 fun r => some (e r))).G x y) (by kernel_rfl) (by simp only [A_0, s0c, bo, so, oa, os, on, ofs])
theorem s1_ev : EvA (env g50 g98 g99 g100 g101 g102 s0 s1 s2 s3 s4) [1, 1, 1] [1] e (A_1 (s1c s2 some)) := fun x y => Eq.trans (b := (A_1 (s1c s2 fun r => some (e r))).G x y) (by kernel_rfl) (by simp only [A_1, s1c, bo, so, oa, os, on, ofs])
theorem s2_ev : EvA (env g50 g98 g99 g100 g101 g102 s0 s1 s2 s3 s4) [1, 0, 1, 1, 1] [1, 38] e (A_2 (s2c s3 some)) := fun x y => Eq.trans (b := (A_2 (s2c s3 fun r => some (e r))).G x y) (by kernel_rfl) (by simp only [A_2, s2c, bo, so, oa, os, on, ofs])
theorem s3_ev : EvA (env g50 g98 g99 g100 g101 g102 s0 s1 s2 s3 s4) [1, 1, 1, 1] [1] e (A_3 (s3c s4 some)) := fun x y => Eq.trans (b := (A_3 (s3c s4 fun r => some (e r))).G x y) (by kernel_rfl) (by simp only [A_3, s3c, bo, so, oa, os, on, ofs])
theorem s4_ev : EvA (env g50 g98 g99 g100 g101 g102 s0 s1 s2 s3 s4) [4, 1, 0, 1, 1, 1, 1] [1, 42, 43, 44] e (A_4 (s4c g50 g99 g100 g101 s4 some)) := fun x y => Eq.trans (b := (A_4 (s4c g50 g99 g100 g101 s4 fun r => some (e r))).G x y) (by kernel_rfl) (by simp only [A_4, s4c, bo, so, oa, os, on, ofs])
end
mutual
def s0 : Nat → S0 R
 | 0, _, _, _, _ => none
 | k + 1, x0, x1, x2, x3 => s0c (s1 k) some x0 x1 x2 x3
def s1 : Nat → S1 R
 | 0, _, _, _ => none
 | k + 1, x0, x1, x2 => s1c (s2 k) some x0 x1 x2
def s2 : Nat → S2 R
 | 0, _, _, _, _ => none
 | k + 1, x0, x1, x2, x3 => s2c (s3 k) some x0 x1 x2 x3
def s3 : Nat → S3 R
 | 0, _, _, _ => none
 | k + 1, x0, x1, x2 => s3c (s4 k) some x0 x1 x2
def s4 : Nat → S4 R
 | 0, _, _, _, _, _, _ => none
 | k + 1, x0, x1, x2, x3, x4, x5 => s4c (schema_words.f k) (schema_col.f k) (names_Unlike.f k) (api_Col_101.f k) (s4 k) some x0 x1 x2 x3 x4 x5
end
def f (k : Nat) (a0 : ByteArray) (a1 : Int) (a2 : List D_api_Col) : Option R := c (names_Check.f k) (s0 k) some a0 a1 a2
noncomputable abbrev E (k : Nat) : FEnv := env (schema_words.f k) (names_Check.f k) (schema_col.f k) (names_Unlike.f k) (api_Col_101.f k) (schema_table_1.f k) (s0 k) (s1 k) (s2 k) (s3 k) (s4 k)
theorem hE (k : Nat) : EnvOK (E k).toEnv := ctsOK (Lc (schema_words.ok k) (Lc (names_Check.ok k) (Lc (schema_col.ok k) (Lc (names_Unlike.ok k) (Lc (api_Col_101.ok k) (Lc (schema_table_1.ok k) L0))))))
theorem sk : ∀ k, ∀ s ∈ [sg0 (s0 k), sg1 (s1 k), sg2 (s2 k), sg3 (s3 k), sg4 (s4 k)], SegB prog f72 0 s
 | 0 => (Lc (sn (Lc (fun _ _ => rfl) L0)) (Lc (sn (Lc (fun _ _ => rfl) L0)) (Lc (sn (Lc (fun _ _ => rfl) L0)) (Lc (sn (Lc (fun _ _ => rfl) L0)) (Lc (sn (Lc (fun _ _ => rfl) L0)) L0)))))
 | k + 1 => (Lc (sg_ok (hE k) (sk k) (Lc s0_ev L0)) (Lc (sg_ok (hE k) (sk k) (Lc s1_ev L0)) (Lc (sg_ok (hE k) (sk k) (Lc s2_ev L0)) (Lc (sg_ok (hE k) (sk k) (Lc s3_ev L0)) (Lc (sg_ok (hE k) (sk k) (Lc s4_ev L0)) L0)))))
theorem ok (k : Nat) : CtOK prog 72 (ct (f k)) := fn_okS hk (fn_ok func72 rfl (by decide) (hE k) (sk k) (Lc ev L0))
end schema_table
namespace schema_Check
def e (r : Int) : Res := ⟨.v (.one (.d (.int .i64) r)), []⟩
abbrev T (δ : Type) : Type := ByteArray → Int → (List D_api_Col) → Option δ
abbrev A {δ : Type} (g : T δ) : Arm δ := ⟨[.s T_api_Table], [], fun x y => g x.1.1.1 x.1.1.2.1 x.1.1.2.2.1⟩
abbrev G : Type := T Int
def ct (g : G) : Ct := mkCt 0 [] [A g] e
section
variable {β : Type} (g72 : schema_table.G)
noncomputable abbrev env : FEnv := mkEnv prog f45 [(71, schema_number.ct ), (72, schema_table.ct g72)] 0 [] []
def c (ret : Int → Option β) (a0 : ByteArray) (a1 : Int) (a2 : List D_api_Col) : Option β := ((g72 a0 a1 a2).bind fun r0 => (Sum.elim (fun r1 => (ret (r1.1))) (fun r2 => (ret ((0 : Int)))) r0))
variable {g72}
theorem ev : EvA (env g72) [] [0] e (A (c g72 some)) := fun x y => Eq.trans (b := (A (c g72 fun r => some (e r))).G x y) (by kernel_rfl) (by simp only [A, c, bo, so, oa, os, on, ofs])
end
def f (k : Nat) (a0 : ByteArray) (a1 : Int) (a2 : List D_api_Col) : Option Int := c (schema_table.f k) some a0 a1 a2
noncomputable abbrev E (k : Nat) : FEnv := env  (schema_table.f k) 
theorem hE (k : Nat) : EnvOK (E k).toEnv := ctsOK (Lc (schema_number.ok k) (Lc (schema_table.ok k) L0))
theorem ok (k : Nat) : CtOK prog 45 (ct (f k)) := fn_ok func45 rfl (by decide) (hE k) L0 (Lc ev L0)
end schema_Check
namespace schema_fits
def e (r : Int) : Res := ⟨.v (.one (.d (.int .i64) r)), []⟩
abbrev T (δ : Type) : Type := ByteArray → Int → (List D_api_Col) → (List D_api_Value) → Option δ
abbrev A {δ : Type} (g : T δ) : Arm δ := ⟨[.s T_api_Table, .d (.sl T_api_Value)], [], fun x y => g x.1.1.1 x.1.1.2.1 x.1.1.2.2.1 x.2.1⟩
abbrev G : Type := T Int
def ct (g : G) : Ct := mkCt 0 [] [A g] e
abbrev S0 (δ : Type) : Type := (List D_api_Value) → Int → Int → ByteArray → Int → (List D_api_Col) → Option δ
abbrev A_0 {δ : Type} (s : S0 δ) : Arm δ := ⟨[.k (.ptr 0 0), .d (.sl T_api_Value), .d (.int .i64), .d (.int .i64)], [.box [.g T_api_Table]], fun x y => s x.2.1 x.2.2.1 x.2.2.2.1 y.1.1.1 y.1.1.2.1 y.1.1.2.2.1⟩
abbrev S1 (δ : Type) : Type := (List D_api_Value) → Int → Int → Bool → ByteArray → Int → (List D_api_Col) → Option δ
abbrev A_1 {δ : Type} (s : S1 δ) : Arm δ := ⟨[.k (.ptr 0 0), .d (.sl T_api_Value), .d (.int .i64), .d (.int .i64), .d .bool], [.box [.g T_api_Table]], fun x y => s x.2.1 x.2.2.1 x.2.2.2.1 x.2.2.2.2.1 y.1.1.1 y.1.1.2.1 y.1.1.2.2.1⟩
abbrev S2 (δ : Type) : Type := (List D_api_Value) → Int → Int → ByteArray → Int → (List D_api_Col) → Option δ
abbrev A_2 {δ : Type} (s : S2 δ) : Arm δ := ⟨[.k (.ptr 0 0), .d (.sl T_api_Value), .d (.int .i64), .d (.int .i64)], [.box [.g T_api_Table]], fun x y => s x.2.1 x.2.2.1 x.2.2.2.1 y.1.1.1 y.1.1.2.1 y.1.1.2.2.1⟩
def sg0 (s : S0 Int) : Seg := mkSg [4, 1, 0, 1] [] [2, 9, 10, 11] [A_0 s] e
def sg1 (s : S1 Int) : Seg := mkSg [1, 1, 1, 1, 4, 0, 1, 1, 5, 4, 1, 0, 1] [] [2, 9, 10, 11, 40] [A_1 s] e
def sg2 (s : S2 Int) : Seg := mkSg [1, 1, 1, 5, 4, 1, 0, 1] [] [2, 9, 10, 11] [A_2 s] e
section
variable {β : Type} (g51 : values_Check.G) (s0 : S0 Int) (s1 : S1 Int) (s2 : S2 Int)
noncomputable abbrev env : FEnv := mkEnv prog f46 [(51, values_Check.ct g51)] 0 [] [sg0 s0, sg1 s1, sg2 s2]
def c (ret : Int → Option β) (a0 : ByteArray) (a1 : Int) (a2 : List D_api_Col) (a3 : List D_api_Value) : Option β := ((s0 a3 (a3.length : Int) (0 : Int) a0 a1 a2).bind ret)
def s0c (ret : Int → Option β) (x0 : List D_api_Value) (x1 x2 : Int) (x3 : ByteArray) (x4 : Int) (x5 : List D_api_Col) : Option β := (bif (decide (x2 < x1)) then (bif ((decide ((0 : Int) ≤ x2)) && (decide (x2 < (x0.length : Int)))) then ((g51 (elem T_api_Value x0 x2).1 (elem T_api_Value x0 x2).2.1 (elem T_api_Value x0 x2).2.2.1 (elem T_api_Value x0 x2).2.2.2.1).bind fun r0 => (bif (r0 != (0 : Int)) then (ret (r0)) else (bif ((decide ((0 : Int) ≤ x2)) && (decide (x2 < (x5.length : Int)))) then (bif ((elem T_api_Value x0 x2).1 != (elem T_api_Col x5 x2).2.1) then (bif ((elem T_api_Value x0 x2).1 != (0 : Int)) then ((s1 x0 x1 x2 true x3 x4 x5).bind ret) else ((s1 x0 x1 x2 (!(elem T_api_Col x5 x2).2.2.1) x3 x4 x5).bind ret)) else ((s1 x0 x1 x2 false x3 x4 x5).bind ret)) else none))) else none) else (ret ((0 : Int))))
def s1c (ret : Int → Option β) (x0 : List D_api_Value) (x1 x2 : Int) (x3 : Bool) (x4 : ByteArray) (x5 : Int) (x6 : List D_api_Col) : Option β := (bif x3 then (ret ((11 : Int))) else ((s2 x0 x1 x2 x4 x5 x6).bind ret))
def s2c (ret : Int → Option β) (x0 : List D_api_Value) (x1 x2 : Int) (x3 : ByteArray) (x4 : Int) (x5 : List D_api_Col) : Option β := ((s0 x0 x1 (IntKind.wrap .i64 (x2 + (1 : Int))) x3 x4 x5).bind ret)
variable {g51} {s0} {s1} {s2}
theorem ev : EvA (env g51 s0 s1 s2) [] [0, 1] e (A (c s0 some)) := fun x y => Eq.trans (b := (A (c s0 fun r => some (e r))).G x y) (by kernel_rfl) (by simp only [A, c, bo, so, oa, os, on, ofs])
theorem s0_ev : EvA (env g51 s0 s1 s2) [4, 1, 0, 1] [2, 9, 10, 11] e (A_0 (s0c g51 s1 some)) := fun x y => Eq.trans (b := (A_0 (s0c g51 s1 fun r => some (e r))).G x y) (by kernel_rfl) (by simp only [A_0, s0c, bo, so, oa, os, on, ofs])
theorem s1_ev : EvA (env g51 s0 s1 s2) [1, 1, 1, 1, 4, 0, 1, 1, 5, 4, 1, 0, 1] [2, 9, 10, 11, 40] e (A_1 (s1c s2 some)) := fun x y => Eq.trans (b := (A_1 (s1c s2 fun r => some (e r))).G x y) (by kernel_rfl) (by simp only [A_1, s1c, bo, so, oa, os, on, ofs])
theorem s2_ev : EvA (env g51 s0 s1 s2) [1, 1, 1, 5, 4, 1, 0, 1] [2, 9, 10, 11] e (A_2 (s2c s0 some)) := fun x y => Eq.trans (b := (A_2 (s2c s0 fun r => some (e r))).G x y) (by kernel_rfl) (by simp only [A_2, s2c, bo, so, oa, os, on, ofs])
end
mutual
def s0 : Nat → S0 Int
 | 0, _, _, _, _, _, _ => none
 | k + 1, x0, x1, x2, x3, x4, x5 => s0c (values_Check.f k) (s1 k) some x0 x1 x2 x3 x4 x5
def s1 : Nat → S1 Int
 | 0, _, _, _, _, _, _, _ => none
 | k + 1, x0, x1, x2, x3, x4, x5, x6 => s1c (s2 k) some x0 x1 x2 x3 x4 x5 x6
def s2 : Nat → S2 Int
 | 0, _, _, _, _, _, _ => none
 | k + 1, x0, x1, x2, x3, x4, x5 => s2c (s0 k) some x0 x1 x2 x3 x4 x5
end
def f (k : Nat) (a0 : ByteArray) (a1 : Int) (a2 : List D_api_Col) (a3 : List D_api_Value) : Option Int := c (s0 k) some a0 a1 a2 a3
noncomputable abbrev E (k : Nat) : FEnv := env (values_Check.f k) (s0 k) (s1 k) (s2 k)
theorem hE (k : Nat) : EnvOK (E k).toEnv := ctsOK (Lc (values_Check.ok k) L0)
theorem sk : ∀ k, ∀ s ∈ [sg0 (s0 k), sg1 (s1 k), sg2 (s2 k)], SegB prog f46 0 s
 | 0 => (Lc (sn (Lc (fun _ _ => rfl) L0)) (Lc (sn (Lc (fun _ _ => rfl) L0)) (Lc (sn (Lc (fun _ _ => rfl) L0)) L0)))
 | k + 1 => (Lc (sg_ok (hE k) (sk k) (Lc s0_ev L0)) (Lc (sg_ok (hE k) (sk k) (Lc s1_ev L0)) (Lc (sg_ok (hE k) (sk k) (Lc s2_ev L0)) L0)))
theorem ok (k : Nat) : CtOK prog 46 (ct (f k)) := fn_ok func46 rfl (by decide) (hE k) (sk k) (Lc ev L0)
end schema_fits
namespace schema_Fits
def e (r : Int) : Res := ⟨.v (.one (.d (.int .i64) r)), []⟩
abbrev T (δ : Type) : Type := ByteArray → Int → (List D_api_Col) → (List D_api_Value) → Option δ
abbrev A {δ : Type} (g : T δ) : Arm δ := ⟨[.s T_api_Table, .d (.sl T_api_Value)], [], fun x y => g x.1.1.1 x.1.1.2.1 x.1.1.2.2.1 x.2.1⟩
abbrev G : Type := T Int
def ct (g : G) : Ct := mkCt 0 [] [A g] e
section
variable {β : Type} (g45 : schema_Check.G) (g46 : schema_fits.G)
noncomputable abbrev env : FEnv := mkEnv prog f20 [(45, schema_Check.ct g45), (46, schema_fits.ct g46)] 0 [] []
def c (ret : Int → Option β) (a0 : ByteArray) (a1 : Int) (a2 : List D_api_Col) (a3 : List D_api_Value) : Option β := ((g45 a0 a1 a2).bind fun r0 => (bif (r0 != (0 : Int)) then (ret (r0)) else (bif ((a3.length : Int) != (a2.length : Int)) then (ret ((11 : Int))) else ((g46 a0 a1 a2 a3).bind fun r1 => (ret (r1))))))
variable {g45} {g46}
theorem ev : EvA (env g45 g46) [] [0, 1] e (A (c g45 g46 some)) := fun x y => Eq.trans (b := (A (c g45 g46 fun r => some (e r))).G x y) (by kernel_rfl) (by simp only [A, c, bo, so, oa, os, on, ofs])
end
def f (k : Nat) (a0 : ByteArray) (a1 : Int) (a2 : List D_api_Col) (a3 : List D_api_Value) : Option Int := c (schema_Check.f k) (schema_fits.f k) some a0 a1 a2 a3
noncomputable abbrev E (k : Nat) : FEnv := env (schema_Check.f k) (schema_fits.f k) 
theorem hE (k : Nat) : EnvOK (E k).toEnv := ctsOK (Lc (schema_Check.ok k) (Lc (schema_fits.ok k) L0))
theorem ok (k : Nat) : CtOK prog 20 (ct (f k)) := fn_ok func20 rfl (by decide) (hE k) L0 (Lc ev L0)
end schema_Fits
namespace sIx
def e (r : Int) : Res := ⟨.v (.one (.d (.int .i64) r)), []⟩
abbrev T (δ : Type) : Type := (List ByteArray) → ByteArray → Option δ
abbrev A {δ : Type} (g : T δ) : Arm δ := ⟨[.d (.sl .str), .d .str], [], fun x y => g x.1 x.2.1⟩
abbrev G : Type := T Int
def ct (g : G) : Ct := mkCt 0 [] [A g] e
abbrev S0 (δ : Type) : Type := (List ByteArray) → ByteArray → Int → Int → Option δ
abbrev A_0 {δ : Type} (s : S0 δ) : Arm δ := ⟨[.d (.sl .str), .d .str, .d (.int .i64), .d (.int .i64)], [], fun x y => s x.1 x.2.1 x.2.2.1 x.2.2.2.1⟩
def sg0 (s : S0 Int) : Seg := mkSg [4, 1, 0, 1] [] [0, 1, 7, 8] [A_0 s] e
section
variable {β : Type} (s0 : S0 Int)
noncomputable abbrev env : FEnv := mkEnv prog f48 [] 0 [] [sg0 s0]
def c (ret : Int → Option β) (a0 : List ByteArray) (a1 : ByteArray) : Option β := ((s0 a0 a1 (a0.length : Int) (0 : Int)).bind ret)
def s0c (ret : Int → Option β) (x0 : List ByteArray) (x1 : ByteArray) (x2 x3 : Int) : Option β := (bif (decide (x3 < x2)) then (bif ((decide ((0 : Int) ≤ x3)) && (decide (x3 < (x0.length : Int)))) then (bif (x1.toList == (ByteArray.toList (elem Ty.str x0 x3))) then (ret (x3)) else ((s0 x0 x1 x2 (IntKind.wrap .i64 (x3 + (1 : Int)))).bind ret)) else none) else (ret ((-1 : Int))))
variable {s0}
theorem ev : EvA (env s0) [] [0, 1] e (A (c s0 some)) := fun x y => Eq.trans (b := (A (c s0 fun r => some (e r))).G x y) (by kernel_rfl) (by simp only [A, c, bo, so, oa, os, on, ofs])
theorem s0_ev : EvA (env s0) [4, 1, 0, 1] [0, 1, 7, 8] e (A_0 (s0c s0 some)) := fun x y => Eq.trans (b := (A_0 (s0c s0 fun r => some (e r))).G x y) (by kernel_rfl) (by simp only [A_0, s0c, bo, so, oa, os, on, ofs])
end
def s0 : Nat → S0 Int
 | 0, _, _, _, _ => none
 | k + 1, x0, x1, x2, x3 => s0c (s0 k) some x0 x1 x2 x3
def f (k : Nat) (a0 : List ByteArray) (a1 : ByteArray) : Option Int := c (s0 k) some a0 a1
noncomputable abbrev E (k : Nat) : FEnv := env  (s0 k)
theorem hE (k : Nat) : EnvOK (E k).toEnv := ctsOK L0
theorem sk : ∀ k, ∀ s ∈ [sg0 (s0 k)], SegB prog f48 0 s
 | 0 => (Lc (sn (Lc (fun _ _ => rfl) L0)) L0)
 | k + 1 => (Lc (sg_ok (hE k) (sk k) (Lc s0_ev L0)) L0)
theorem ok (k : Nat) : CtOK prog 48 (ct (f k)) := fn_ok func48 rfl (by decide) (hE k) (sk k) (Lc ev L0)
end sIx
namespace slices_Contains_string_string
def e (r : Bool) : Res := ⟨.v (.one (.d .bool r)), []⟩
abbrev T (δ : Type) : Type := (List ByteArray) → ByteArray → Option δ
abbrev A {δ : Type} (g : T δ) : Arm δ := ⟨[.d (.sl .str), .d .str], [], fun x y => g x.1 x.2.1⟩
abbrev G : Type := T Bool
def ct (g : G) : Ct := mkCt 0 [] [A g] e
section
variable {β : Type} (g48 : sIx.G)
noncomputable abbrev env : FEnv := mkEnv prog f25 [(48, sIx.ct g48)] 0 [] []
def c (ret : Bool → Option β) (a0 : List ByteArray) (a1 : ByteArray) : Option β := ((g48 a0 a1).bind fun r0 => (ret ((decide (r0 ≥ (0 : Int))))))
variable {g48}
theorem ev : EvA (env g48) [] [0, 1] e (A (c g48 some)) := fun x y => Eq.trans (b := (A (c g48 fun r => some (e r))).G x y) (by kernel_rfl) (by simp only [A, c, bo, so, oa, os, on, ofs])
end
def f (k : Nat) (a0 : List ByteArray) (a1 : ByteArray) : Option Bool := c (sIx.f k) some a0 a1
noncomputable abbrev E (k : Nat) : FEnv := env (sIx.f k) 
theorem hE (k : Nat) : EnvOK (E k).toEnv := ctsOK (Lc (sIx.ok k) L0)
theorem ok (k : Nat) : CtOK prog 25 (ct (f k)) := fn_ok func25 rfl (by decide) (hE k) L0 (Lc ev L0)
end slices_Contains_string_string
namespace change_of
abbrev R : Type := D_api_Change ⊕ (D_api_Change ⊕ (D_api_Change ⊕ (D_api_Change ⊕ (D_api_Change ⊕ (D_api_Change ⊕ Unit)))))
def e (r : R) : Res := Sum.elim (fun r =>  ⟨.v (.one (.ifc 104 true T_api_Change r)), []⟩) (fun r => Sum.elim (fun r =>  ⟨.v (.one (.ifc 105 true T_api_Change r)), []⟩) (fun r => Sum.elim (fun r =>  ⟨.v (.one (.ifc 106 true T_api_Change r)), []⟩) (fun r => Sum.elim (fun r =>  ⟨.v (.one (.ifc 107 true T_api_Change r)), []⟩) (fun r => Sum.elim (fun r =>  ⟨.v (.one (.ifc 108 true T_api_Change r)), []⟩) (fun r => Sum.elim (fun r =>  ⟨.v (.one (.ifc 109 true T_api_Change r)), []⟩) (fun r =>  ⟨.v (.one (.raw (.nilIface))), []⟩) r) r) r) r) r) r
abbrev T (δ : Type) : Type := D_api_Change → Option δ
abbrev A {δ : Type} (g : T δ) : Arm δ := ⟨[.s T_api_Change], [], fun x y => g x.1.1⟩
abbrev G : Type := T R
def ek {β : Type} (r : R) (K : Res → Option β) : Option β := Sum.elim (fun r => K ⟨.v (.one (.ifc 104 true T_api_Change r)), []⟩) (fun r => Sum.elim (fun r => K ⟨.v (.one (.ifc 105 true T_api_Change r)), []⟩) (fun r => Sum.elim (fun r => K ⟨.v (.one (.ifc 106 true T_api_Change r)), []⟩) (fun r => Sum.elim (fun r => K ⟨.v (.one (.ifc 107 true T_api_Change r)), []⟩) (fun r => Sum.elim (fun r => K ⟨.v (.one (.ifc 108 true T_api_Change r)), []⟩) (fun r => Sum.elim (fun r => K ⟨.v (.one (.ifc 109 true T_api_Change r)), []⟩) (fun r => K ⟨.v (.one (.raw (.nilIface))), []⟩) r) r) r) r) r) r
theorem hk {β : Type} (r : R) (K : Res → Option β) : ek r K = K (e r) := by rcases r with _ | _ | _ | _ | _ | _ | _ <;> rfl
def ct (g : G) : Ct := mkCtS 0 [] [A g] e ek hk
section
variable {β : Type} 
noncomputable abbrev env : FEnv := mkEnv prog f39 [] 0 [] []
def c (ret : R → Option β) (a0 : D_api_Change) : Option β := (bif (a0.1 == (1 : Int)) then (ret (.inl (a0))) else (bif (a0.1 == (2 : Int)) then (ret (.inr (.inl (a0)))) else (bif (a0.1 == (3 : Int)) then (ret (.inr (.inr (.inl (a0))))) else (bif (a0.1 == (4 : Int)) then (ret (.inr (.inr (.inr (.inl (a0)))))) else (bif (a0.1 == (5 : Int)) then (ret (.inr (.inr (.inr (.inr (.inl (a0))))))) else (bif (a0.1 == (6 : Int)) then (ret (.inr (.inr (.inr (.inr (.inr (.inl (a0)))))))) else (ret (.inr (.inr (.inr (.inr (.inr (.inr ())))))))))))))
theorem ev : EvA (env) [] [0] e (A (c some)) := fun x y => Eq.trans (b := (A (c fun r => some (e r))).G x y) (by kernel_rfl) (by simp only [A, c, bo, so, oa, os, on, ofs])
end
def f (k : Nat) (a0 : D_api_Change) : Option R := c  some a0
noncomputable abbrev E (k : Nat) : FEnv := env  
theorem hE (k : Nat) : EnvOK (E k).toEnv := ctsOK L0
theorem ok (k : Nat) : CtOK prog 39 (ct (f k)) := fn_okS hk (fn_ok func39 rfl (by decide) (hE k) L0 (Lc ev L0))
end change_of
end Go.Proofs.YtijjlpgcpdapnaaGreatDoor.Aev
