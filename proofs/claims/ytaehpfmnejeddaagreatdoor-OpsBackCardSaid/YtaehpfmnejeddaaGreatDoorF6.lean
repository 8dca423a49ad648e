import Derived.Test.YtaehpfmnejeddaaGreatDoorTys
import Derived.Test.YtaehpfmnejeddaaGreatDoorProg
import Derived.Laws.Externs
import Derived.Lib.Bytealg
import Derived.Test.YtaehpfmnejeddaaGreatDoorF3
import Derived.Test.YtaehpfmnejeddaaGreatDoorF4
import Derived.Test.YtaehpfmnejeddaaGreatDoorF5
/- By a program of this session (AEV): functions of the program as plain functions, and that the machine does what they say. -/
namespace Go.Proofs.YtaehpfmnejeddaaGreatDoor.Aev
set_option linter.unusedVariables false
set_option linter.unusedSimpArgs false
set_option maxRecDepth 100000
set_option maxHeartbeats 4000000
open Go Go.Proofs.Tryz
namespace api_Value_81
def e (r : Int) : Res := ⟨.v (.one (.d (.int .i64) r)), []⟩
abbrev T (δ : Type) : Type := (List D_api_Value) → (List D_api_Value) → Option δ
abbrev A {δ : Type} (g : T δ) : Arm δ := ⟨[.d (.sl T_api_Value), .d (.sl T_api_Value), .k (.fn 82 [])], [], fun x y => g x.1 x.2.1⟩
abbrev G : Type := T Int
def ct (g : G) : Ct := mkCt 0 [] [A g] e
abbrev S0 (δ : Type) : Type := (List D_api_Value) → (List D_api_Value) → Int → Option δ
abbrev A_0 {δ : Type} (s : S0 δ) : Arm δ := ⟨[.d (.sl T_api_Value), .d (.sl T_api_Value), .k (.fn 82 []), .d (.int .i64)], [], fun x y => s x.1 x.2.1 x.2.2.2.1⟩
abbrev S1 (δ : Type) : Type := (List D_api_Value) → (List D_api_Value) → Int → Bool → Option δ
abbrev A_1 {δ : Type} (s : S1 δ) : Arm δ := ⟨[.d (.sl T_api_Value), .d (.sl T_api_Value), .k (.fn 82 []), .d (.int .i64), .d .bool], [], fun x y => s x.1 x.2.1 x.2.2.2.1 x.2.2.2.2.1⟩
abbrev S2 (δ : Type) : Type := (List D_api_Value) → (List D_api_Value) → Int → Option δ
abbrev A_2 {δ : Type} (s : S2 δ) : Arm δ := ⟨[.d (.sl T_api_Value), .d (.sl T_api_Value), .k (.fn 82 []), .d (.int .i64)], [], fun x y => s x.1 x.2.1 x.2.2.2.1⟩
def sg0 (s : S0 Int) : Seg := mkSg [4, 0, 1, 1] [] [0, 1, 2, 7] [A_0 s] e
def sg1 (s : S1 Int) : Seg := mkSg [1, 0, 5, 4, 0, 1, 1] [] [0, 1, 2, 7, 29] [A_1 s] e
def sg2 (s : S2 Int) : Seg := mkSg [1, 5, 4, 0, 1, 1] [] [0, 1, 2, 7] [A_2 s] e
section
variable {β : Type} (g82 : values_Same.G) (s0 : S0 Int) (s1 : S1 Int) (s2 : S2 Int)
noncomputable abbrev env : FEnv := mkEnv prog f81 [(82, values_Same.ct g82)] 0 [] [sg0 s0, sg1 s1, sg2 s2]
def c (ret : Int → Option β) (a0 : List D_api_Value) (a1 : List D_api_Value) : Option β := ((s0 a0 a1 (0 : Int)).bind ret)
def s0c (ret : Int → Option β) (x0 : List D_api_Value) (x1 : List D_api_Value) (x2 : Int) : Option β := (bif (decide (x2 < (x0.length : Int))) then (bif (decide (x2 < (x1.length : Int))) then (bif ((decide ((0 : Int) ≤ x2)) && (decide (x2 < (x0.length : Int)))) then (bif ((decide ((0 : Int) ≤ x2)) && (decide (x2 < (x1.length : Int)))) then ((g82 (elem T_api_Value x0 x2).1 (elem T_api_Value x0 x2).2.1 (elem T_api_Value x0 x2).2.2.1 (elem T_api_Value x0 x2).2.2.2.1 (elem T_api_Value x1 x2).1 (elem T_api_Value x1 x2).2.1 (elem T_api_Value x1 x2).2.2.1 (elem T_api_Value x1 x2).2.2.2.1).bind fun r0 => ((s1 x0 x1 x2 r0).bind ret)) else none) else none) else ((s1 x0 x1 x2 false).bind ret)) else ((s1 x0 x1 x2 false).bind ret))
def s1c (ret : Int → Option β) (x0 : List D_api_Value) (x1 : List D_api_Value) (x2 : Int) (x3 : Bool) : Option β := (bif x3 then ((s2 x0 x1 x2).bind ret) else (ret (x2)))
def s2c (ret : Int → Option β) (x0 : List D_api_Value) (x1 : List D_api_Value) (x2 : Int) : Option β := ((s0 x0 x1 (IntKind.wrap .i64 (x2 + (1 : Int)))).bind ret)
variable {g82} {s0} {s1} {s2}
theorem ev : EvA (env g82 s0 s1 s2) [] [0, 1, 2] e (A (c s0 some)) := fun x y => Eq.trans (b := (A (c s0 fun r => some (e r))).G x y) (by kernel_rfl) (by simp only [A, c, bo, sum_bind, oa, os, on, ofs])
theorem s0_ev : EvA (env g82 s0 s1 s2) [4, 0, 1, 1] [0, 1, 2, 7] e (A_0 (s0c g82 s1 some)) := fun x y => Eq.trans (b := (A_0 (s0c g82 s1 fun r => some (e r))).G x y) (by kernel_rfl) (by simp only [A_0, s0c, bo, sum_bind, oa, os, on, ofs])
theorem s1_ev : EvA (env g82 s0 s1 s2) [1, 0, 5, 4, 0, 1, 1] [0, 1, 2, 7, 29] e (A_1 (s1c s2 some)) := fun x y => Eq.trans (b := (A_1 (s1c s2 fun r => some (e r))).G x y) (by kernel_rfl) (by simp only [A_1, s1c, bo, sum_bind, oa, os, on, ofs])
theorem s2_ev : EvA (env g82 s0 s1 s2) [1, 5, 4, 0, 1, 1] [0, 1, 2, 7] e (A_2 (s2c s0 some)) := fun x y => Eq.trans (b := (A_2 (s2c s0 fun r => some (e r))).G x y) (by kernel_rfl) (by simp only [A_2, s2c, bo, sum_bind, oa, os, on, ofs])
end
mutual
def s0 : Nat → S0 Int
 | 0, _, _, _ => none
 | k + 1, x0, x1, x2 => s0c (values_Same.f k) (s1 k) some x0 x1 x2
def s1 : Nat → S1 Int
 | 0, _, _, _, _ => none
 | k + 1, x0, x1, x2, x3 => s1c (s2 k) some x0 x1 x2 x3
def s2 : Nat → S2 Int
 | 0, _, _, _ => none
 | k + 1, x0, x1, x2 => s2c (s0 k) some x0 x1 x2
end
def f (k : Nat) (a0 : List D_api_Value) (a1 : List D_api_Value) : Option Int := c (s0 k) some a0 a1
noncomputable abbrev E (k : Nat) : FEnv := env (values_Same.f k) (s0 k) (s1 k) (s2 k)
theorem hE (k : Nat) : EnvOK (E k).toEnv := ctsOK (Lc (values_Same.ok k) L0)
theorem sk : ∀ k, ∀ s ∈ [sg0 (s0 k), sg1 (s1 k), sg2 (s2 k)], SegB prog f81 0 s
 | 0 => (Lc (sn (Lc (fun _ _ => rfl) L0)) (Lc (sn (Lc (fun _ _ => rfl) L0)) (Lc (sn (Lc (fun _ _ => rfl) L0)) L0)))
 | k + 1 => (Lc (sg_ok (hE k) (sk k) (Lc s0_ev L0)) (Lc (sg_ok (hE k) (sk k) (Lc s1_ev L0)) (Lc (sg_ok (hE k) (sk k) (Lc s2_ev L0)) L0)))
theorem ok (k : Nat) : CtOK prog 81 (ct (f k)) := fn_ok func81 rfl (by decide) (hE k) (sk k) (Lc ev L0)
end api_Value_81
namespace rows_Same
def e (r : Bool) : Res := ⟨.v (.one (.d .bool r)), []⟩
abbrev T (δ : Type) : Type := (List D_api_Value) → (List D_api_Value) → Option δ
abbrev A {δ : Type} (g : T δ) : Arm δ := ⟨[.d (.sl T_api_Value), .d (.sl T_api_Value)], [], fun x y => g x.1 x.2.1⟩
abbrev G : Type := T Bool
def ct (g : G) : Ct := mkCt 0 [] [A g] e
section
variable {β : Type} (g81 : api_Value_81.G) (g82 : values_Same.G)
noncomputable abbrev env : FEnv := mkEnv prog f58 [(81, api_Value_81.ct g81), (82, values_Same.ct g82)] 0 [] []
def c (ret : Bool → Option β) (a0 : List D_api_Value) (a1 : List D_api_Value) : Option β := (bif ((a0.length : Int) == (a1.length : Int)) then ((g81 a0 a1).bind fun r0 => (ret ((r0 == (a0.length : Int))))) else (ret (false)))
variable {g81} {g82}
theorem ev : EvA (env g81 g82) [] [0, 1] e (A (c g81 some)) := fun x y => Eq.trans (b := (A (c g81 fun r => some (e r))).G x y) (by kernel_rfl) (by simp only [A, c, bo, sum_bind, oa, os, on, ofs])
end
def f (k : Nat) (a0 : List D_api_Value) (a1 : List D_api_Value) : Option Bool := c (api_Value_81.f k) some a0 a1
noncomputable abbrev E (k : Nat) : FEnv := env (api_Value_81.f k) (values_Same.f k) 
theorem hE (k : Nat) : EnvOK (E k).toEnv := ctsOK (Lc (api_Value_81.ok k) (Lc (values_Same.ok k) L0))
theorem ok (k : Nat) : CtOK prog 58 (ct (f k)) := fn_ok func58 rfl (by decide) (hE k) L0 (Lc ev L0)
end rows_Same
namespace ops_Same
def e (r : Bool) : Res := ⟨.v (.one (.d .bool r)), []⟩
abbrev T (δ : Type) : Type := D_api_Op → D_api_Op → Option δ
abbrev A {δ : Type} (g : T δ) : Arm δ := ⟨[.s T_api_Op, .s T_api_Op], [], fun x y => g x.1.1 x.2.1.1⟩
abbrev G : Type := T Bool
def ct (g : G) : Ct := mkCt 0 [] [A g] e
abbrev S0 (δ : Type) : Type := Bool → D_api_Op → D_api_Op → Option δ
abbrev A_0 {δ : Type} (s : S0 δ) : Arm δ := ⟨[.k (.ptr 0 0), .k (.ptr 1 0), .d .bool], [.box [.g T_api_Op], .box [.g T_api_Op]], fun x y => s x.2.2.1 y.1.1 y.2.1.1⟩
abbrev S1 (δ : Type) : Type := D_api_Op → D_api_Op → Option δ
abbrev A_1 {δ : Type} (s : S1 δ) : Arm δ := ⟨[.k (.ptr 0 0), .k (.ptr 1 0)], [.box [.g T_api_Op], .box [.g T_api_Op]], fun x y => s y.1.1 y.2.1.1⟩
def sg0 (s : S0 Bool) : Seg := mkSg [1, 0, 1] [] [2, 3, 51] [A_0 s] e
def sg1 (s : S1 Bool) : Seg := mkSg [1, 1] [] [2, 3] [A_1 s] e
section
variable {β : Type} (g10 : ops_PutChange.G) (g58 : rows_Same.G) (s0 : S0 Bool) (s1 : S1 Bool)
noncomputable abbrev env : FEnv := mkEnv prog f21 [(10, ops_PutChange.ct g10), (58, rows_Same.ct g58)] 0 [] [sg0 s0, sg1 s1]
def c (ret : Bool → Option β) (a0 : D_api_Op) (a1 : D_api_Op) : Option β := (bif (a0.1 != a1.1) then ((s0 true a0 a1).bind ret) else (bif (!(a0.2.1.toList == a1.2.1.toList)) then ((s0 true a0 a1).bind ret) else (bif (a0.2.2.2.2.2.1 != a1.2.2.2.2.2.1) then ((s0 true a0 a1).bind ret) else ((g58 a0.2.2.1 a1.2.2.1).bind fun r0 => (bif (!r0) then ((s0 true a0 a1).bind ret) else ((g58 a0.2.2.2.1 a1.2.2.2.1).bind fun r1 => (bif (!r1) then ((s0 true a0 a1).bind ret) else ((g58 a0.2.2.2.2.1 a1.2.2.2.2.1).bind fun r2 => ((s0 (!r2) a0 a1).bind ret)))))))))
def s0c (ret : Bool → Option β) (x0 : Bool) (x1 : D_api_Op) (x2 : D_api_Op) : Option β := (bif x0 then (ret (false)) else ((s1 x1 x2).bind ret))
def s1c (ret : Bool → Option β) (x0 : D_api_Op) (x1 : D_api_Op) : Option β := (bif (x0.1 != (6 : Int)) then (ret (true)) else ((g10 x0.2.2.2.2.2.2.1).bind fun r0 => ((g10 x1.2.2.2.2.2.2.1).bind fun r1 => (bif (r0.2 == (0 : Int)) then (bif (r1.2 == (0 : Int)) then (ret ((r0.1.toList == r1.1.toList))) else (ret (false))) else (ret (false))))))
variable {g10} {g58} {s0} {s1}
theorem ev : EvA (env g10 g58 s0 s1) [] [0, 1] e (A (c g58 s0 some)) := fun x y => Eq.trans (b := (A (c g58 s0 fun r => some (e r))).G x y) (by kernel_rfl) (by simp only [A, c, bo, sum_bind, oa, os, on, ofs])
theorem s0_ev : EvA (env g10 g58 s0 s1) [1, 0, 1] [2, 3, 51] e (A_0 (s0c s1 some)) := fun x y => Eq.trans (b := (A_0 (s0c s1 fun r => some (e r))).G x y) (by kernel_rfl) (by simp only [A_0, s0c, bo, sum_bind, oa, os, on, ofs])
theorem s1_ev : EvA (env g10 g58 s0 s1) [1, 1] [2, 3] e (A_1 (s1c g10 some)) := fun x y => Eq.trans (b := (A_1 (s1c g10 fun r => some (e r))).G x y) (by kernel_rfl) (by simp only [A_1, s1c, bo, sum_bind, oa, os, on, ofs])
end
mutual
def s0 : Nat → S0 Bool
 | 0, _, _, _ => none
 | k + 1, x0, x1, x2 => s0c (s1 k) some x0 x1 x2
def s1 : Nat → S1 Bool
 | 0, _, _ => none
 | k + 1, x0, x1 => s1c (ops_PutChange.f k) some x0 x1
end
def f (k : Nat) (a0 : D_api_Op) (a1 : D_api_Op) : Option Bool := c (rows_Same.f k) (s0 k) some a0 a1
noncomputable abbrev E (k : Nat) : FEnv := env (ops_PutChange.f k) (rows_Same.f k) (s0 k) (s1 k)
theorem hE (k : Nat) : EnvOK (E k).toEnv := ctsOK (Lc (ops_PutChange.ok k) (Lc (rows_Same.ok k) L0))
theorem sk : ∀ k, ∀ s ∈ [sg0 (s0 k), sg1 (s1 k)], SegB prog f21 0 s
 | 0 => (Lc (sn (Lc (fun _ _ => rfl) L0)) (Lc (sn (Lc (fun _ _ => rfl) L0)) L0))
 | k + 1 => (Lc (sg_ok (hE k) (sk k) (Lc s0_ev L0)) (Lc (sg_ok (hE k) (sk k) (Lc s1_ev L0)) L0))
theorem ok (k : Nat) : CtOK prog 21 (ct (f k)) := fn_ok func21 rfl (by decide) (hE k) (sk k) (Lc ev L0)
end ops_Same
namespace api_Value_59
def e (r : Bool) : Res := ⟨.v (.one (.d .bool r)), []⟩
abbrev T (δ : Type) : Type := (List (List D_api_Value)) → (List (List D_api_Value)) → Option δ
abbrev A {δ : Type} (g : T δ) : Arm δ := ⟨[.d (.sl (.sl T_api_Value)), .d (.sl (.sl T_api_Value)), .k (.fn 58 [])], [], fun x y => g x.1 x.2.1⟩
abbrev G : Type := T Bool
def ct (g : G) : Ct := mkCt 0 [] [A g] e
abbrev S0 (δ : Type) : Type := (List (List D_api_Value)) → (List (List D_api_Value)) → Int → Int → Option δ
abbrev A_0 {δ : Type} (s : S0 δ) : Arm δ := ⟨[.d (.sl (.sl T_api_Value)), .k (.fn 58 []), .d (.sl (.sl T_api_Value)), .d (.int .i64), .d (.int .i64)], [], fun x y => s x.1 x.2.2.1 x.2.2.2.1 x.2.2.2.2.1⟩
def sg0 (s : S0 Bool) : Seg := mkSg [4, 1, 0, 1, 1] [] [1, 2, 15, 16, 17] [A_0 s] e
section
variable {β : Type} (g58 : rows_Same.G) (s0 : S0 Bool)
noncomputable abbrev env : FEnv := mkEnv prog f59 [(58, rows_Same.ct g58)] 0 [] [sg0 s0]
def c (ret : Bool → Option β) (a0 : List (List D_api_Value)) (a1 : List (List D_api_Value)) : Option β := (bif ((a0.length : Int) != (a1.length : Int)) then (ret (false)) else ((s0 a1 a0 (a0.length : Int) (0 : Int)).bind ret))
def s0c (ret : Bool → Option β) (x0 : List (List D_api_Value)) (x1 : List (List D_api_Value)) (x2 : Int) (x3 : Int) : Option β := (bif (decide (x3 < x2)) then (bif ((decide ((0 : Int) ≤ x3)) && (decide (x3 < (x1.length : Int)))) then (bif ((decide ((0 : Int) ≤ x3)) && (decide (x3 < (x0.length : Int)))) then ((g58 (elem (Ty.sl T_api_Value) x1 x3) (elem (Ty.sl T_api_Value) x0 x3)).bind fun r0 => (bif (!r0) then (ret (false)) else ((s0 x0 x1 x2 (IntKind.wrap .i64 (x3 + (1 : Int)))).bind ret))) else none) else none) else (ret (true)))
variable {g58} {s0}
theorem ev : EvA (env g58 s0) [] [0, 1, 2] e (A (c s0 some)) := fun x y => Eq.trans (b := (A (c s0 fun r => some (e r))).G x y) (by kernel_rfl) (by simp only [A, c, bo, sum_bind, oa, os, on, ofs])
theorem s0_ev : EvA (env g58 s0) [4, 1, 0, 1, 1] [1, 2, 15, 16, 17] e (A_0 (s0c g58 s0 some)) := fun x y => Eq.trans (b := (A_0 (s0c g58 s0 fun r => some (e r))).G x y) (by kernel_rfl) (by simp only [A_0, s0c, bo, sum_bind, oa, os, on, ofs])
end
def s0 : Nat → S0 Bool
 | 0, _, _, _, _ => none
 | k + 1, x0, x1, x2, x3 => s0c (rows_Same.f k) (s0 k) some x0 x1 x2 x3
def f (k : Nat) (a0 : List (List D_api_Value)) (a1 : List (List D_api_Value)) : Option Bool := c (s0 k) some a0 a1
noncomputable abbrev E (k : Nat) : FEnv := env (rows_Same.f k) (s0 k)
theorem hE (k : Nat) : EnvOK (E k).toEnv := ctsOK (Lc (rows_Same.ok k) L0)
theorem sk : ∀ k, ∀ s ∈ [sg0 (s0 k)], SegB prog f59 0 s
 | 0 => (Lc (sn (Lc (fun _ _ => rfl) L0)) L0)
 | k + 1 => (Lc (sg_ok (hE k) (sk k) (Lc s0_ev L0)) L0)
theorem ok (k : Nat) : CtOK prog 59 (ct (f k)) := fn_ok func59 rfl (by decide) (hE k) (sk k) (Lc ev L0)
end api_Value_59
namespace ops_Replies
def e (r : Bool) : Res := ⟨.v (.one (.d .bool r)), []⟩
abbrev T (δ : Type) : Type := Int → (List (List D_api_Value)) → Int → (List (List D_api_Value)) → Option δ
abbrev A {δ : Type} (g : T δ) : Arm δ := ⟨[.s T_api_Reply, .s T_api_Reply], [], fun x y => g x.1.1.1 x.1.1.2.1 x.2.1.1.1 x.2.1.1.2.1⟩
abbrev G : Type := T Bool
def ct (g : G) : Ct := mkCt 0 [] [A g] e
section
variable {β : Type} (g58 : rows_Same.G) (g59 : api_Value_59.G)
noncomputable abbrev env : FEnv := mkEnv prog f22 [(58, rows_Same.ct g58), (59, api_Value_59.ct g59)] 0 [] []
def c (ret : Bool → Option β) (a0 : Int) (a1 : List (List D_api_Value)) (a2 : Int) (a3 : List (List D_api_Value)) : Option β := (bif (a0 == a2) then ((g59 a1 a3).bind fun r0 => (ret (r0))) else (ret (false)))
variable {g58} {g59}
theorem ev : EvA (env g58 g59) [] [0, 1] e (A (c g59 some)) := fun x y => Eq.trans (b := (A (c g59 fun r => some (e r))).G x y) (by kernel_rfl) (by simp only [A, c, bo, sum_bind, oa, os, on, ofs])
end
def f (k : Nat) (a0 : Int) (a1 : List (List D_api_Value)) (a2 : Int) (a3 : List (List D_api_Value)) : Option Bool := c (api_Value_59.f k) some a0 a1 a2 a3
noncomputable abbrev E (k : Nat) : FEnv := env (rows_Same.f k) (api_Value_59.f k) 
theorem hE (k : Nat) : EnvOK (E k).toEnv := ctsOK (Lc (rows_Same.ok k) (Lc (api_Value_59.ok k) L0))
theorem ok (k : Nat) : CtOK prog 22 (ct (f k)) := fn_ok func22 rfl (by decide) (hE k) L0 (Lc ev L0)
end ops_Replies
namespace transomlaw14_awake
def e (r : Bool) : Res := ⟨.v (.one (.d .bool r)), []⟩
abbrev T (δ : Type) : Type := Option δ
abbrev A {δ : Type} (g : T δ) : Arm δ := ⟨[], [], fun x y => g⟩
abbrev G : Type := T Bool
def ct (g : G) : Ct := mkCt 0 [] [A g] e
section
variable {β : Type} (g10 : ops_PutChange.G) (g12 : ops_ReadChange.G) (g16 : ops_Put.G) (g18 : ops_Read.G) (g21 : ops_Same.G) (g22 : ops_Replies.G)
noncomputable abbrev env : FEnv := mkEnv prog f9 [(10, ops_PutChange.ct g10), (12, ops_ReadChange.ct g12), (16, ops_Put.ct g16), (18, ops_Read.ct g18), (21, ops_Same.ct g21), (22, ops_Replies.ct g22)] 0 [] []
def c (ret : Bool → Option β)  : Option β := ((g16 ((7 : Int), ((ByteArray.mk (List.toArray [])), ([], ([], ([], ((0 : Int), (Z_api_Change, ())))))))).bind fun r0 => ((g18 (ByteArray.mk (List.toArray [(7 : UInt8), (0 : UInt8), (1 : UInt8), (0 : UInt8), (1 : UInt8), (0 : UInt8), (1 : UInt8), (0 : UInt8), (0 : UInt8), (122 : UInt8)]))).bind fun r1 => ((g10 ((6 : Int), ((ByteArray.mk (List.toArray [(97 : UInt8)])), ((ByteArray.mk (List.toArray [(98 : UInt8)])), ((ByteArray.mk (List.toArray [(99 : UInt8)])), ((ByteArray.mk (List.toArray [])), ((ByteArray.mk (List.toArray [])), ((0 : Int), ([], (((ByteArray.mk (List.toArray [])), ((0 : Int), (false, (((0 : Int), ((0 : Int), ((0 : Int), ((ByteArray.mk (List.toArray [])), ())))), ())))), (((ByteArray.mk (List.toArray [])), ((0 : Int), ([], ()))), ()))))))))))).bind fun r2 => ((g12 r2.1).bind fun r3 => ((g18 (ByteArray.mk (List.toArray [(10 : UInt8)]))).bind fun r4 => (bif (r0.1.toList == (ByteArray.toList (ByteArray.mk (List.toArray [(7 : UInt8), (0 : UInt8), (1 : UInt8), (0 : UInt8), (1 : UInt8), (0 : UInt8), (1 : UInt8), (0 : UInt8), (0 : UInt8)])))) then (bif (r0.2 == (0 : Int)) then (bif (r1.1.1 == (7 : Int)) then (bif (r1.2.1.toList == (ByteArray.toList (ByteArray.mk (List.toArray [(122 : UInt8)])))) then (bif (r1.2.2 == (0 : Int)) then (bif (r2.2 == (0 : Int)) then (bif (r3.1.2.2.1.toList == (ByteArray.toList (ByteArray.mk (List.toArray [(98 : UInt8)])))) then (bif (r3.2.1.toList == (ByteArray.toList (ByteArray.mk (List.toArray [])))) then (bif (r3.2.2 == (0 : Int)) then (bif (r4.2.2 == (1 : Int)) then ((g21 r1.1 ((7 : Int), ((ByteArray.mk (List.toArray [])), ([], ([], ([], ((0 : Int), (Z_api_Change, ())))))))).bind fun r5 => (bif r5 then ((g21 r1.1 ((9 : Int), ((ByteArray.mk (List.toArray [])), ([], ([], ([], ((0 : Int), (Z_api_Change, ())))))))).bind fun r6 => (bif (!r6) then ((g22 (0 : Int) [] (1 : Int) []).bind fun r7 => (ret ((!r7)))) else (ret (false)))) else (ret (false)))) else (ret (false))) else (ret (false))) else (ret (false))) else (ret (false))) else (ret (false))) else (ret (false))) else (ret (false))) else (ret (false))) else (ret (false))) else (ret (false))))))))
variable {g10} {g12} {g16} {g18} {g21} {g22}
theorem ev : EvA (env g10 g12 g16 g18 g21 g22) [] [] e (A (c g10 g12 g16 g18 g21 g22 some)) := fun x y => Eq.trans (b := (A (c g10 g12 g16 g18 g21 g22 fun r => some (e r))).G x y) (by kernel_rfl) (by simp only [A, c, bo, sum_bind, oa, os, on, ofs])
end
def f (k : Nat)  : Option Bool := c (ops_PutChange.f k) (ops_ReadChange.f k) (ops_Put.f k) (ops_Read.f k) (ops_Same.f k) (ops_Replies.f k) some 
noncomputable abbrev E (k : Nat) : FEnv := env (ops_PutChange.f k) (ops_ReadChange.f k) (ops_Put.f k) (ops_Read.f k) (ops_Same.f k) (ops_Replies.f k) 
theorem hE (k : Nat) : EnvOK (E k).toEnv := ctsOK (Lc (ops_PutChange.ok k) (Lc (ops_ReadChange.ok k) (Lc (ops_Put.ok k) (Lc (ops_Read.ok k) (Lc (ops_Same.ok k) (Lc (ops_Replies.ok k) L0))))))
theorem ok (k : Nat) : CtOK prog 9 (ct (f k)) := fn_ok func9 rfl (by decide) (hE k) L0 (Lc ev L0)
end transomlaw14_awake
namespace transomref14_long
def e (r : Bool) : Res := ⟨.v (.one (.d .bool r)), []⟩
abbrev T (δ : Type) : Type := (List ByteArray) → Option δ
abbrev A {δ : Type} (g : T δ) : Arm δ := ⟨[.d (.sl .str)], [], fun x y => g x.1⟩
abbrev G : Type := T Bool
def ct (g : G) : Ct := mkCt 0 [] [A g] e
abbrev S0 (δ : Type) : Type := (List ByteArray) → Int → Option δ
abbrev A_0 {δ : Type} (s : S0 δ) : Arm δ := ⟨[.d (.sl .str), .d (.int .i64)], [], fun x y => s x.1 x.2.1⟩
def sg0 (s : S0 Bool) : Seg := mkSg [4, 1, 0, 1] [] [0, 3] [A_0 s] e
section
variable {β : Type} (s0 : S0 Bool)
noncomputable abbrev env : FEnv := mkEnv prog f34 [] 0 [] [sg0 s0]
def c (ret : Bool → Option β) (a0 : List ByteArray) : Option β := ((s0 a0 (0 : Int)).bind ret)
def s0c (ret : Bool → Option β) (x0 : List ByteArray) (x1 : Int) : Option β := (bif (decide (x1 < (x0.length : Int))) then (bif ((decide ((0 : Int) ≤ x1)) && (decide (x1 < (x0.length : Int)))) then (bif (decide (((ByteArray.size (elem Ty.str x0 x1)) : Int) > (16 : Int))) then (ret (true)) else ((s0 x0 (IntKind.wrap .i64 (x1 + (1 : Int)))).bind ret)) else none) else (ret (false)))
variable {s0}
theorem ev : EvA (env s0) [] [0] e (A (c s0 some)) := fun x y => Eq.trans (b := (A (c s0 fun r => some (e r))).G x y) (by kernel_rfl) (by simp only [A, c, bo, sum_bind, oa, os, on, ofs])
theorem s0_ev : EvA (env s0) [4, 1, 0, 1] [0, 3] e (A_0 (s0c s0 some)) := fun x y => Eq.trans (b := (A_0 (s0c s0 fun r => some (e r))).G x y) (by kernel_rfl) (by simp only [A_0, s0c, bo, sum_bind, oa, os, on, ofs])
end
def s0 : Nat → S0 Bool
 | 0, _, _ => none
 | k + 1, x0, x1 => s0c (s0 k) some x0 x1
def f (k : Nat) (a0 : List ByteArray) : Option Bool := c (s0 k) some a0
noncomputable abbrev E (k : Nat) : FEnv := env  (s0 k)
theorem hE (k : Nat) : EnvOK (E k).toEnv := ctsOK L0
theorem sk : ∀ k, ∀ s ∈ [sg0 (s0 k)], SegB prog f34 0 s
 | 0 => (Lc (sn (Lc (fun _ _ => rfl) L0)) L0)
 | k + 1 => (Lc (sg_ok (hE k) (sk k) (Lc s0_ev L0)) L0)
theorem ok (k : Nat) : CtOK prog 34 (ct (f k)) := fn_ok func34 rfl (by decide) (hE k) (sk k) (Lc ev L0)
end transomref14_long
namespace transomref14_small
abbrev R : Type := ByteArray × Int × (List D_api_Col)
def e (r : R) : Res := ⟨.v (.agg [(.d .str r.1), (.d (.int .i64) r.2.1), (.d (.sl T_api_Col) r.2.2)]), []⟩
abbrev T (δ : Type) : Type := ByteArray → Int → Bool → Int → Int → Int → ByteArray → Option δ
abbrev A {δ : Type} (g : T δ) : Arm δ := ⟨[.s T_api_Col], [], fun x y => g x.1.1.1 x.1.1.2.1 x.1.1.2.2.1 x.1.1.2.2.2.1.1 x.1.1.2.2.2.1.2.1 x.1.1.2.2.2.1.2.2.1 x.1.1.2.2.2.1.2.2.2.1⟩
abbrev G : Type := T R
def ct (g : G) : Ct := mkCt 0 [] [A g] e
section
variable {β : Type} 
noncomputable abbrev env : FEnv := mkEnv prog f63 [] 0 [] []
def c (ret : R → Option β) (a0 : ByteArray) (a1 : Int) (a2 : Bool) (a3 : Int) (a4 : Int) (a5 : Int) (a6 : ByteArray) : Option β := (bif (a0.toList == (ByteArray.toList (ByteArray.mk (List.toArray [(107 : UInt8)])))) then (ret ((ByteArray.mk (List.toArray [(120 : UInt8)])), (1 : Int), [((ByteArray.mk (List.toArray [(106 : UInt8)])), ((2 : Int), (false, (((0 : Int), ((0 : Int), ((0 : Int), ((ByteArray.mk (List.toArray [])), ())))), ())))), (a0, (a1, (a2, ((a3, (a4, (a5, (a6, ())))), ()))))])) else (ret ((ByteArray.mk (List.toArray [(120 : UInt8)])), (1 : Int), [((ByteArray.mk (List.toArray [(107 : UInt8)])), ((2 : Int), (false, (((0 : Int), ((0 : Int), ((0 : Int), ((ByteArray.mk (List.toArray [])), ())))), ())))), (a0, (a1, (a2, ((a3, (a4, (a5, (a6, ())))), ()))))])))
theorem ev : EvA (env) [] [0] e (A (c some)) := fun x y => Eq.trans (b := (A (c fun r => some (e r))).G x y) (by kernel_rfl) (by simp only [A, c, bo, sum_bind, oa, os, on, ofs])
end
def f (k : Nat) (a0 : ByteArray) (a1 : Int) (a2 : Bool) (a3 : Int) (a4 : Int) (a5 : Int) (a6 : ByteArray) : Option R := c  some a0 a1 a2 a3 a4 a5 a6
noncomputable abbrev E (k : Nat) : FEnv := env  
theorem hE (k : Nat) : EnvOK (E k).toEnv := ctsOK L0
theorem ok (k : Nat) : CtOK prog 63 (ct (f k)) := fn_ok func63 rfl (by decide) (hE k) L0 (Lc ev L0)
end transomref14_small
namespace transomref14_def
abbrev R : Type := ByteArray × Int × (List D_api_Col) × Bool
def e (r : R) : Res := ⟨.tup [(.agg [(.d .str r.1), (.d (.int .i64) r.2.1), (.d (.sl T_api_Col) r.2.2.1)]), (.one (.d .bool r.2.2.2))], []⟩
abbrev T (δ : Type) : Type := D_api_Change → Option δ
abbrev A {δ : Type} (g : T δ) : Arm δ := ⟨[.s T_api_Change], [], fun x y => g x.1.1⟩
abbrev G : Type := T R
def ct (g : G) : Ct := mkCt 0 [] [A g] e
section
variable {β : Type} (g63 : transomref14_small.G)
noncomputable abbrev env : FEnv := mkEnv prog f35 [(63, transomref14_small.ct g63)] 0 [] []
def c (ret : R → Option β) (a0 : D_api_Change) : Option β := (bif (a0.1 == (1 : Int)) then (ret (a0.2.2.2.2.2.2.2.2.2.1.1, a0.2.2.2.2.2.2.2.2.2.1.2.1, a0.2.2.2.2.2.2.2.2.2.1.2.2.1, true)) else (bif (a0.1 == (2 : Int)) then ((g63 a0.2.2.2.2.2.2.2.2.1.1 a0.2.2.2.2.2.2.2.2.1.2.1 a0.2.2.2.2.2.2.2.2.1.2.2.1 a0.2.2.2.2.2.2.2.2.1.2.2.2.1.1 a0.2.2.2.2.2.2.2.2.1.2.2.2.1.2.1 a0.2.2.2.2.2.2.2.2.1.2.2.2.1.2.2.1 a0.2.2.2.2.2.2.2.2.1.2.2.2.1.2.2.2.1).bind fun r0 => (ret (r0.1, r0.2.1, r0.2.2, true))) else (ret ((ByteArray.mk (List.toArray [])), (0 : Int), [], false))))
variable {g63}
theorem ev : EvA (env g63) [] [0] e (A (c g63 some)) := fun x y => Eq.trans (b := (A (c g63 fun r => some (e r))).G x y) (by kernel_rfl) (by simp only [A, c, bo, sum_bind, oa, os, on, ofs])
end
def f (k : Nat) (a0 : D_api_Change) : Option R := c (transomref14_small.f k) some a0
noncomputable abbrev E (k : Nat) : FEnv := env (transomref14_small.f k) 
theorem hE (k : Nat) : EnvOK (E k).toEnv := ctsOK (Lc (transomref14_small.ok k) L0)
theorem ok (k : Nat) : CtOK prog 35 (ct (f k)) := fn_ok func35 rfl (by decide) (hE k) L0 (Lc ev L0)
end transomref14_def
namespace transomref03_Uint
def e (r : ByteArray) : Res := ⟨.v (.one (.d .str r)), []⟩
abbrev T (δ : Type) : Type := Int → Option δ
abbrev A {δ : Type} (g : T δ) : Arm δ := ⟨[.d (.int .u64)], [], fun x y => g x.1⟩
abbrev G : Type := T ByteArray
def ct (g : G) : Ct := mkCt 0 [] [A g] e
abbrev S0 (δ : Type) : Type := Int → (List Int) → Option δ
abbrev A_0 {δ : Type} (s : S0 δ) : Arm δ := ⟨[.d (.int .u64), .k (.own 0)], [.own (.int .u8) false], fun x y => s x.1 y.1⟩
def sg0 (s : S0 ByteArray) : Seg := mkSg [4, 0, 1, 1] [.own 3 (.int .u8)] [0, 3] [A_0 s] e
section
variable {β : Type} (s0 : S0 ByteArray)
noncomputable abbrev env : FEnv := mkEnv prog f37 [] 0 [] [sg0 s0]
def c (ret : ByteArray → Option β) (a0 : Int) : Option β := ((s0 a0 []).bind ret)
def s0c (ret : ByteArray → Option β) (x0 : Int) (x1 : List Int) : Option β := (bif (decide (x0 ≥ (128 : Int))) then (bif (decide (((x1.length + (1 : Nat)) * (1 : Nat)) ≤ (35184372088832 : Nat))) then ((s0 (IntKind.wrap .u64 (Int.tdiv x0 (128 : Int))) (x1 ++ [(IntKind.wrap .u8 (IntKind.wrap .u64 ((Int.tmod x0 (128 : Int)) + (128 : Int))))])).bind ret) else none) else (bif (decide (((x1.length + (1 : Nat)) * (1 : Nat)) ≤ (35184372088832 : Nat))) then (ret ((ByteArray.mk (List.toArray (List.map (fun n => (UInt8.ofNat (Int.toNat n))) (x1 ++ [(IntKind.wrap .u8 x0)])))))) else none))
variable {s0}
theorem ev : EvA (env s0) [] [0] e (A (c s0 some)) := fun x y => Eq.trans (b := (A (c s0 fun r => some (e r))).G x y) (by kernel_rfl) (by simp only [A, c, bo, sum_bind, oa, os, on, ofs])
theorem s0_ev : EvA (env s0) [4, 0, 1, 1] [0, 3] e (A_0 (s0c s0 some)) := fun x y => Eq.trans (b := (A_0 (s0c s0 fun r => some (e r))).G x y) (by kernel_rfl) (by simp only [A_0, s0c, bo, sum_bind, oa, os, on, ofs])
end
def s0 : Nat → S0 ByteArray
 | 0, _, _ => none
 | k + 1, x0, x1 => s0c (s0 k) some x0 x1
def f (k : Nat) (a0 : Int) : Option ByteArray := c (s0 k) some a0
noncomputable abbrev E (k : Nat) : FEnv := env  (s0 k)
theorem hE (k : Nat) : EnvOK (E k).toEnv := ctsOK L0
theorem sk : ∀ k, ∀ s ∈ [sg0 (s0 k)], SegB prog f37 0 s
 | 0 => (Lc (sn (Lc (fun _ _ => rfl) L0)) L0)
 | k + 1 => (Lc (sg_ok (hE k) (sk k) (Lc s0_ev L0)) L0)
theorem ok (k : Nat) : CtOK prog 37 (ct (f k)) := fn_ok func37 rfl (by decide) (hE k) (sk k) (Lc ev L0)
end transomref03_Uint
namespace transomref03_Text
def e (r : ByteArray) : Res := ⟨.v (.one (.d .str r)), []⟩
abbrev T (δ : Type) : Type := ByteArray → Option δ
abbrev A {δ : Type} (g : T δ) : Arm δ := ⟨[.d .str], [], fun x y => g x.1⟩
abbrev G : Type := T ByteArray
def ct (g : G) : Ct := mkCt 0 [] [A g] e
section
variable {β : Type} (g37 : transomref03_Uint.G)
noncomputable abbrev env : FEnv := mkEnv prog f38 [(37, transomref03_Uint.ct g37)] 0 [] []
def c (ret : ByteArray → Option β) (a0 : ByteArray) : Option β := ((g37 (IntKind.wrap .u64 (a0.size : Int))).bind fun r0 => (bif ((decide (r0.size ≤ (4611686018427387903 : Nat))) && (decide (a0.size ≤ (4611686018427387903 : Nat)))) then (ret ((r0 ++ a0))) else none))
variable {g37}
theorem ev : EvA (env g37) [] [0] e (A (c g37 some)) := fun x y => Eq.trans (b := (A (c g37 fun r => some (e r))).G x y) (by kernel_rfl) (by simp only [A, c, bo, sum_bind, oa, os, on, ofs])
end
def f (k : Nat) (a0 : ByteArray) : Option ByteArray := c (transomref03_Uint.f k) some a0
noncomputable abbrev E (k : Nat) : FEnv := env (transomref03_Uint.f k) 
theorem hE (k : Nat) : EnvOK (E k).toEnv := ctsOK (Lc (transomref03_Uint.ok k) L0)
theorem ok (k : Nat) : CtOK prog 38 (ct (f k)) := fn_ok func38 rfl (by decide) (hE k) L0 (Lc ev L0)
end transomref03_Text
namespace transomref08_letter
def e (r : Bool) : Res := ⟨.v (.one (.d .bool r)), []⟩
abbrev T (δ : Type) : Type := Int → Option δ
abbrev A {δ : Type} (g : T δ) : Arm δ := ⟨[.d (.int .u8)], [], fun x y => g x.1⟩
abbrev G : Type := T Bool
def ct (g : G) : Ct := mkCt 0 [] [A g] e
section
variable {β : Type} 
noncomputable abbrev env : FEnv := mkEnv prog f119 [] 0 [] []
def c (ret : Bool → Option β) (a0 : Int) : Option β := (bif (decide (a0 ≥ (97 : Int))) then (ret ((decide (a0 ≤ (122 : Int))))) else (ret (false)))
theorem ev : EvA (env) [] [0] e (A (c some)) := fun x y => Eq.trans (b := (A (c fun r => some (e r))).G x y) (by kernel_rfl) (by simp only [A, c, bo, sum_bind, oa, os, on, ofs])
end
def f (k : Nat) (a0 : Int) : Option Bool := c  some a0
noncomputable abbrev E (k : Nat) : FEnv := env  
theorem hE (k : Nat) : EnvOK (E k).toEnv := ctsOK L0
theorem ok (k : Nat) : CtOK prog 119 (ct (f k)) := fn_ok func119 rfl (by decide) (hE k) L0 (Lc ev L0)
end transomref08_letter
namespace transomref08_Check
def e (r : Int) : Res := ⟨.v (.one (.d (.int .i64) r)), []⟩
abbrev T (δ : Type) : Type := ByteArray → Option δ
abbrev A {δ : Type} (g : T δ) : Arm δ := ⟨[.d .str], [], fun x y => g x.1⟩
abbrev G : Type := T Int
def ct (g : G) : Ct := mkCt 0 [] [A g] e
abbrev S0 (δ : Type) : Type := ByteArray → Bool → Option δ
abbrev A_0 {δ : Type} (s : S0 δ) : Arm δ := ⟨[.d .str, .d .bool], [], fun x y => s x.1 x.2.1⟩
abbrev S1 (δ : Type) : Type := ByteArray → Option δ
abbrev A_1 {δ : Type} (s : S1 δ) : Arm δ := ⟨[.d .str], [], fun x y => s x.1⟩
abbrev S2 (δ : Type) : Type := ByteArray → Int → Option δ
abbrev A_2 {δ : Type} (s : S2 δ) : Arm δ := ⟨[.d .str, .d (.int .i64)], [], fun x y => s x.1 x.2.1⟩
abbrev S3 (δ : Type) : Type := ByteArray → Int → Bool → Option δ
abbrev A_3 {δ : Type} (s : S3 δ) : Arm δ := ⟨[.d .str, .d (.int .i64), .d .bool], [], fun x y => s x.1 x.2.1 x.2.2.1⟩
abbrev S4 (δ : Type) : Type := ByteArray → Int → Option δ
abbrev A_4 {δ : Type} (s : S4 δ) : Arm δ := ⟨[.d .str, .d (.int .i64)], [], fun x y => s x.1 x.2.1⟩
def sg0 (s : S0 Int) : Seg := mkSg [1, 0, 1] [] [0, 17] [A_0 s] e
def sg1 (s : S1 Int) : Seg := mkSg [1, 1] [] [0] [A_1 s] e
def sg2 (s : S2 Int) : Seg := mkSg [4, 1, 0, 1, 1] [] [0, 3] [A_2 s] e
def sg3 (s : S3 Int) : Seg := mkSg [1, 4, 0, 1, 5, 4, 1, 0, 1, 1] [] [0, 3, 46] [A_3 s] e
def sg4 (s : S4 Int) : Seg := mkSg [1, 1, 5, 4, 1, 0, 1, 1] [] [0, 3] [A_4 s] e
section
variable {β : Type} (g119 : transomref08_letter.G) (s0 : S0 Int) (s1 : S1 Int) (s2 : S2 Int) (s3 : S3 Int) (s4 : S4 Int)
noncomputable abbrev env : FEnv := mkEnv prog f87 [(119, transomref08_letter.ct g119)] 0 [] [sg0 s0, sg1 s1, sg2 s2, sg3 s3, sg4 s4]
def c (ret : Int → Option β) (a0 : ByteArray) : Option β := (bif (decide ((a0.size : Int) < (1 : Int))) then ((s0 a0 true).bind ret) else (bif (decide ((a0.size : Int) > (16 : Int))) then ((s0 a0 true).bind ret) else (bif (true && (decide ((0 : Int) < (a0.size : Int)))) then ((g119 (bt a0 (0 : Int))).bind fun r0 => ((s0 a0 (!r0)).bind ret)) else none)))
def s0c (ret : Int → Option β) (x0 : ByteArray) (x1 : Bool) : Option β := (bif x1 then (ret ((8 : Int))) else ((s1 x0).bind ret))
def s1c (ret : Int → Option β) (x0 : ByteArray) : Option β := ((s2 x0 (1 : Int)).bind ret)
def s2c (ret : Int → Option β) (x0 : ByteArray) (x1 : Int) : Option β := (bif (decide (x1 < (x0.size : Int))) then (bif ((decide ((0 : Int) ≤ x1)) && (decide (x1 < (x0.size : Int)))) then ((g119 (bt x0 x1)).bind fun r0 => (bif (!r0) then (bif ((decide ((0 : Int) ≤ x1)) && (decide (x1 < (x0.size : Int)))) then (bif ((bt x0 x1) != (95 : Int)) then (bif ((decide ((0 : Int) ≤ x1)) && (decide (x1 < (x0.size : Int)))) then (bif (decide ((bt x0 x1) < (48 : Int))) then ((s3 x0 x1 true).bind ret) else (bif ((decide ((0 : Int) ≤ x1)) && (decide (x1 < (x0.size : Int)))) then ((s3 x0 x1 (decide ((bt x0 x1) > (57 : Int)))).bind ret) else none)) else none) else ((s3 x0 x1 false).bind ret)) else none) else ((s3 x0 x1 false).bind ret))) else none) else (ret ((0 : Int))))
def s3c (ret : Int → Option β) (x0 : ByteArray) (x1 : Int) (x2 : Bool) : Option β := (bif x2 then (ret ((8 : Int))) else ((s4 x0 x1).bind ret))
def s4c (ret : Int → Option β) (x0 : ByteArray) (x1 : Int) : Option β := ((s2 x0 (IntKind.wrap .i64 (x1 + (1 : Int)))).bind ret)
variable {g119} {s0} {s1} {s2} {s3} {s4}
theorem ev : EvA (env g119 s0 s1 s2 s3 s4) [] [0] e (A (c g119 s0 some)) := fun x y => Eq.trans (b := (A (c g119 s0 fun r => some (e r))).G x y) (by kernel_rfl) (by simp only [A, c, bo, sum_bind, oa, os, on, ofs])
theorem s0_ev : EvA (env g119 s0 s1 s2 s3 s4) [1, 0, 1] [0, 17] e (A_0 (s0c s1 some)) := fun x y => Eq.trans (b := (A_0 (s0c s1 fun r => some (e r))).G x y) (by kernel_rfl) (by simp only [A_0, s0c, bo, sum_bind, oa, os, on, ofs])
theorem s1_ev : EvA (env g119 s0 s1 s2 s3 s4) [1, 1] [0] e (A_1 (s1c s2 some)) := fun x y => Eq.trans (b := (A_1 (s1c s2 fun r => some (e r))).G x y) (by kernel_rfl) (by simp only [A_1, s1c, bo, sum_bind, oa, os, on, ofs])
theorem s2_ev : EvA (env g119 s0 s1 s2 s3 s4) [4, 1, 0, 1, 1] [0, 3] e (A_2 (s2c g119 s3 some)) := fun x y => Eq.trans (b := (A_2 (s2c g119 s3 fun r => some (e r))).G x y) (by kernel_rfl) (by simp only [A_2, s2c, bo, sum_bind, oa, os, on, ofs])
theorem s3_ev : EvA (env g119 s0 s1 s2 s3 s4) [1, 4, 0, 1, 5, 4, 1, 0, 1, 1] [0, 3, 46] e (A_3 (s3c s4 some)) := fun x y => Eq.trans (b := (A_3 (s3c s4 fun r => some (e r))).G x y) (by kernel_rfl) (by simp only [A_3, s3c, bo, sum_bind, oa, os, on, ofs])
theorem s4_ev : EvA (env g119 s0 s1 s2 s3 s4) [1, 1, 5, 4, 1, 0, 1, 1] [0, 3] e (A_4 (s4c s2 some)) := fun x y => Eq.trans (b := (A_4 (s4c s2 fun r => some (e r))).G x y) (by kernel_rfl) (by simp only [A_4, s4c, bo, sum_bind, oa, os, on, ofs])
end
mutual
def s0 : Nat → S0 Int
 | 0, _, _ => none
 | k + 1, x0, x1 => s0c (s1 k) some x0 x1
def s1 : Nat → S1 Int
 | 0, _ => none
 | k + 1, x0 => s1c (s2 k) some x0
def s2 : Nat → S2 Int
 | 0, _, _ => none
 | k + 1, x0, x1 => s2c (transomref08_letter.f k) (s3 k) some x0 x1
def s3 : Nat → S3 Int
 | 0, _, _, _ => none
 | k + 1, x0, x1, x2 => s3c (s4 k) some x0 x1 x2
def s4 : Nat → S4 Int
 | 0, _, _ => none
 | k + 1, x0, x1 => s4c (s2 k) some x0 x1
end
def f (k : Nat) (a0 : ByteArray) : Option Int := c (transomref08_letter.f k) (s0 k) some a0
noncomputable abbrev E (k : Nat) : FEnv := env (transomref08_letter.f k) (s0 k) (s1 k) (s2 k) (s3 k) (s4 k)
theorem hE (k : Nat) : EnvOK (E k).toEnv := ctsOK (Lc (transomref08_letter.ok k) L0)
theorem sk : ∀ k, ∀ s ∈ [sg0 (s0 k), sg1 (s1 k), sg2 (s2 k), sg3 (s3 k), sg4 (s4 k)], SegB prog f87 0 s
 | 0 => (Lc (sn (Lc (fun _ _ => rfl) L0)) (Lc (sn (Lc (fun _ _ => rfl) L0)) (Lc (sn (Lc (fun _ _ => rfl) L0)) (Lc (sn (Lc (fun _ _ => rfl) L0)) (Lc (sn (Lc (fun _ _ => rfl) L0)) L0)))))
 | k + 1 => (Lc (sg_ok (hE k) (sk k) (Lc s0_ev L0)) (Lc (sg_ok (hE k) (sk k) (Lc s1_ev L0)) (Lc (sg_ok (hE k) (sk k) (Lc s2_ev L0)) (Lc (sg_ok (hE k) (sk k) (Lc s3_ev L0)) (Lc (sg_ok (hE k) (sk k) (Lc s4_ev L0)) L0)))))
theorem ok (k : Nat) : CtOK prog 87 (ct (f k)) := fn_ok func87 rfl (by decide) (hE k) (sk k) (Lc ev L0)
end transomref08_Check
namespace transomref02_exponent
def e (r : Int) : Res := ⟨.v (.one (.d (.int .i64) r)), []⟩
abbrev T (δ : Type) : Type := Int → Option δ
abbrev A {δ : Type} (g : T δ) : Arm δ := ⟨[.d (.int .u64)], [], fun x y => g x.1⟩
abbrev G : Type := T Int
def ct (g : G) : Ct := mkCt 0 [] [A g] e
section
variable {β : Type} 
noncomputable abbrev env : FEnv := mkEnv prog f146 [] 0 [] []
def c (ret : Int → Option β) (a0 : Int) : Option β := (ret ((IntKind.wrap .i64 (IntKind.wrap .u64 ((BitVec.toNat ((BitVec.ofInt (64 : Nat) (Int.fdiv a0 (4503599627370496 : Int))) &&& (BitVec.ofInt (64 : Nat) (2047 : Int)))) : Int)))))
theorem ev : EvA (env) [] [0] e (A (c some)) := fun x y => Eq.trans (b := (A (c fun r => some (e r))).G x y) (by kernel_rfl) (by simp only [A, c, bo, sum_bind, oa, os, on, ofs])
end
def f (k : Nat) (a0 : Int) : Option Int := c  some a0
noncomputable abbrev E (k : Nat) : FEnv := env  
theorem hE (k : Nat) : EnvOK (E k).toEnv := ctsOK L0
theorem ok (k : Nat) : CtOK prog 146 (ct (f k)) := fn_ok func146 rfl (by decide) (hE k) L0 (Lc ev L0)
end transomref02_exponent
namespace transomref02_fraction
def e (r : Int) : Res := ⟨.v (.one (.d (.int .u64) r)), []⟩
abbrev T (δ : Type) : Type := Int → Option δ
abbrev A {δ : Type} (g : T δ) : Arm δ := ⟨[.d (.int .u64)], [], fun x y => g x.1⟩
abbrev G : Type := T Int
def ct (g : G) : Ct := mkCt 0 [] [A g] e
section
variable {β : Type} 
noncomputable abbrev env : FEnv := mkEnv prog f147 [] 0 [] []
def c (ret : Int → Option β) (a0 : Int) : Option β := (ret ((IntKind.wrap .u64 ((BitVec.toNat ((BitVec.ofInt (64 : Nat) a0) &&& (BitVec.ofInt (64 : Nat) (4503599627370495 : Int)))) : Int))))
theorem ev : EvA (env) [] [0] e (A (c some)) := fun x y => Eq.trans (b := (A (c fun r => some (e r))).G x y) (by kernel_rfl) (by simp only [A, c, bo, sum_bind, oa, os, on, ofs])
end
def f (k : Nat) (a0 : Int) : Option Int := c  some a0
noncomputable abbrev E (k : Nat) : FEnv := env  
theorem hE (k : Nat) : EnvOK (E k).toEnv := ctsOK L0
theorem ok (k : Nat) : CtOK prog 147 (ct (f k)) := fn_ok func147 rfl (by decide) (hE k) L0 (Lc ev L0)
end transomref02_fraction
namespace transomref02_Class
def e (r : Int) : Res := ⟨.v (.one (.d (.int .i64) r)), []⟩
abbrev T (δ : Type) : Type := Int → Option δ
abbrev A {δ : Type} (g : T δ) : Arm δ := ⟨[.d (.int .u64)], [], fun x y => g x.1⟩
abbrev G : Type := T Int
def ct (g : G) : Ct := mkCt 0 [] [A g] e
abbrev S0 (δ : Type) : Type := Int → Bool → Option δ
abbrev A_0 {δ : Type} (s : S0 δ) : Arm δ := ⟨[.d (.int .u64), .d .bool], [], fun x y => s x.1 x.2.1⟩
def sg0 (s : S0 Int) : Seg := mkSg [1, 4, 0, 1] [] [0, 3] [A_0 s] e
section
variable {β : Type} (g146 : transomref02_exponent.G) (g147 : transomref02_fraction.G) (s0 : S0 Int)
noncomputable abbrev env : FEnv := mkEnv prog f128 [(146, transomref02_exponent.ct g146), (147, transomref02_fraction.ct g147)] 0 [] [sg0 s0]
def c (ret : Int → Option β) (a0 : Int) : Option β := ((g146 a0).bind fun r0 => (bif (r0 == (2047 : Int)) then ((g147 a0).bind fun r1 => ((s0 a0 (r1 != (0 : Int))).bind ret)) else ((s0 a0 false).bind ret)))
def s0c (ret : Int → Option β) (x0 : Int) (x1 : Bool) : Option β := (bif x1 then (ret ((1 : Int))) else ((g146 x0).bind fun r0 => (bif (r0 == (2047 : Int)) then (ret ((2 : Int))) else ((g146 x0).bind fun r1 => (bif (r1 == (0 : Int)) then ((g147 x0).bind fun r2 => (bif (r2 == (0 : Int)) then (ret ((3 : Int))) else ((g146 x0).bind fun r3 => (bif (r3 == (0 : Int)) then (ret ((4 : Int))) else (ret ((5 : Int))))))) else ((g146 x0).bind fun r4 => (bif (r4 == (0 : Int)) then (ret ((4 : Int))) else (ret ((5 : Int))))))))))
variable {g146} {g147} {s0}
theorem ev : EvA (env g146 g147 s0) [] [0] e (A (c g146 g147 s0 some)) := fun x y => Eq.trans (b := (A (c g146 g147 s0 fun r => some (e r))).G x y) (by kernel_rfl) (by simp only [A, c, bo, sum_bind, oa, os, on, ofs])
theorem s0_ev : EvA (env g146 g147 s0) [1, 4, 0, 1] [0, 3] e (A_0 (s0c g146 g147 some)) := fun x y => Eq.trans (b := (A_0 (s0c g146 g147 fun r => some (e r))).G x y) (by kernel_rfl) (by simp only [A_0, s0c, bo, sum_bind, oa, os, on, ofs])
end
def s0 : Nat → S0 Int
 | 0, _, _ => none
 | k + 1, x0, x1 => s0c (transomref02_exponent.f k) (transomref02_fraction.f k) some x0 x1
def f (k : Nat) (a0 : Int) : Option Int := c (transomref02_exponent.f k) (transomref02_fraction.f k) (s0 k) some a0
noncomputable abbrev E (k : Nat) : FEnv := env (transomref02_exponent.f k) (transomref02_fraction.f k) (s0 k)
theorem hE (k : Nat) : EnvOK (E k).toEnv := ctsOK (Lc (transomref02_exponent.ok k) (Lc (transomref02_fraction.ok k) L0))
theorem sk : ∀ k, ∀ s ∈ [sg0 (s0 k)], SegB prog f128 0 s
 | 0 => (Lc (sn (Lc (fun _ _ => rfl) L0)) L0)
 | k + 1 => (Lc (sg_ok (hE k) (sk k) (Lc s0_ev L0)) L0)
theorem ok (k : Nat) : CtOK prog 128 (ct (f k)) := fn_ok func128 rfl (by decide) (hE k) (sk k) (Lc ev L0)
end transomref02_Class
end Go.Proofs.YtaehpfmnejeddaaGreatDoor.Aev
