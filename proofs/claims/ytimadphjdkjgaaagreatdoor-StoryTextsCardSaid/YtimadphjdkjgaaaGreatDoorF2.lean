import Derived.Test.YtimadphjdkjgaaaGreatDoorTys
import Derived.Test.YtimadphjdkjgaaaGreatDoorProg
import Derived.Laws.Externs
import Derived.Lib.Bytealg
import Derived.Test.YtimadphjdkjgaaaGreatDoorF0
import Derived.Test.YtimadphjdkjgaaaGreatDoorF1
import Derived.Test.YtimadphjdkjgaaaGreatDoorShelf
/- By a program of this session (AEV): functions of the program as plain functions, and that the machine does what they say. -/
namespace Go.Proofs.YtimadphjdkjgaaaGreatDoor.Aev
set_option linter.unusedVariables false
set_option linter.unusedSimpArgs false
set_option maxRecDepth 100000
set_option maxHeartbeats 4000000
open Go Go.Proofs.Tryz
namespace sw_change
abbrev R : Type := (Int × (List ByteArray)) ⊕ Int
def e (r : R) : Res := Sum.elim (fun r =>  ⟨.tup [], [some (.box [(.own 1), (.d (.int .i64) r.1)]), some (.own .str false r.2)]⟩) (fun r =>  ⟨.tup [], [some (.box [(.raw (.slice none 0 0)), (.d (.int .i64) r)])]⟩) r
abbrev T0 (δ : Type) : Type := D_api_Change → Int → (List ByteArray) → Option δ
abbrev A0 {δ : Type} (g : T0 δ) : Arm δ := ⟨[.k (.ptr 0 0), .s T_api_Change], [.box [.c (.own 1), .g (.int .i64)], .own .str false], fun x y => g x.2.1.1 y.1.2.1 y.2.1⟩
abbrev T1 (δ : Type) : Type := D_api_Change → Int → Option δ
abbrev A1 {δ : Type} (g : T1 δ) : Arm δ := ⟨[.k (.ptr 0 0), .s T_api_Change], [.box [.c .nilS, .g (.int .i64)]], fun x y => g x.2.1.1 y.1.2.1⟩
abbrev G0 : Type := T0 R
abbrev G1 : Type := T1 R
def ek {β : Type} (r : R) (K : Res → Option β) : Option β := Sum.elim (fun r => K ⟨.tup [], [some (.box [(.own 1), (.d (.int .i64) r.1)]), some (.own .str false r.2)]⟩) (fun r => K ⟨.tup [], [some (.box [(.raw (.slice none 0 0)), (.d (.int .i64) r)])]⟩) r
theorem hk {β : Type} (r : R) (K : Res → Option β) : ek r K = K (e r) := by rcases r with _ | _ <;> rfl
def ct (g0 : G0) (g1 : G1) : Ct := mkCtS 1 [] [A0 g0, A1 g1] e ek hk
abbrev S0 (δ : Type) : Type := (List D_api_Col) → Int → Int → Int → (List ByteArray) → Option δ
abbrev A_0 {δ : Type} (s : S0 δ) : Arm δ := ⟨[.k (.ptr 0 0), .d (.sl T_api_Col), .d (.int .i64), .d (.int .i64)], [.box [.c (.own 1), .g (.int .i64)], .own .str false], fun x y => s x.2.1 x.2.2.1 x.2.2.2.1 y.1.2.1 y.2.1⟩
def sg0 (s : S0 R) : Seg := mkSg [4, 1, 1, 1, 1, 1, 2, 1, 4, 1, 1] [] [0, 35, 36, 37] [A_0 s] e
section
variable {β : Type} (g27_0 : sw_word.G0) (g27_1 : sw_word.G1) (g28 : sw_number.G) (g30_0 : sw_fail.G0) (g30_1 : sw_fail.G1) (g56 : sw_name.G) (g64 : sw_col.G) (g65 : sw_kind.G) (s0 : S0 R)
noncomputable abbrev env : FEnv := mkEnv prog f34 [(27, sw_word.ct g27_0 g27_1), (28, sw_number.ct g28), (30, sw_fail.ct g30_0 g30_1), (56, sw_name.ct g56), (64, sw_col.ct g64), (65, sw_kind.ct g65)] 1 [] [sg0 s0]
def c0 (ret : R → Option β) (a0 : D_api_Change) (a1 : Int) (a2 : List ByteArray) : Option β := (bif (a0.1 == (1 : Int)) then ((g27_0 [(ByteArray.mk (List.toArray [99, 114, 101, 97, 116, 101]))] a1 a2).bind fun r0 => ((g56 [a0.2.2.2.2.2.2.2.2.2.1.1] r0.1 r0.2).bind fun r1 => ((g28 a0.2.2.2.2.2.2.2.2.2.1.2.1 r1.1 r1.2).bind fun r2 => (bif (decide ((a0.2.2.2.2.2.2.2.2.2.1.2.2.1.length : Int) > (8 : Int))) then ((g30_0 (2 : Int) r2.1 r2.2).bind fun r3 => (Sum.elim (fun r4 => (ret (.inl (r4.1, r4.2)))) (fun r5 => (ret (.inr (r5)))) r3)) else ((s0 a0.2.2.2.2.2.2.2.2.2.1.2.2.1 (a0.2.2.2.2.2.2.2.2.2.1.2.2.1.length : Int) (0 : Int) r2.1 r2.2).bind ret))))) else (bif (a0.1 == (2 : Int)) then ((g27_0 [(ByteArray.mk (List.toArray [97, 100, 100]))] a1 a2).bind fun r6 => ((g56 [a0.2.1] r6.1 r6.2).bind fun r7 => ((g64 a0.2.2.2.2.2.2.2.2.1.1 a0.2.2.2.2.2.2.2.2.1.2.1 a0.2.2.2.2.2.2.2.2.1.2.2.1 a0.2.2.2.2.2.2.2.2.1.2.2.2.1.1 a0.2.2.2.2.2.2.2.2.1.2.2.2.1.2.1 a0.2.2.2.2.2.2.2.2.1.2.2.2.1.2.2.1 a0.2.2.2.2.2.2.2.2.1.2.2.2.1.2.2.2.1 r7.1 r7.2).bind fun r8 => (ret (.inl (r8.1, r8.2)))))) else (bif (a0.1 == (3 : Int)) then ((g27_0 [(ByteArray.mk (List.toArray [100, 114, 111, 112]))] a1 a2).bind fun r9 => ((g56 [a0.2.1, a0.2.2.2.2.2.1] r9.1 r9.2).bind fun r10 => (ret (.inl (r10.1, r10.2))))) else (bif (a0.1 == (4 : Int)) then ((g27_0 [(ByteArray.mk (List.toArray [114, 101, 116, 121, 112, 101]))] a1 a2).bind fun r11 => ((g56 [a0.2.1, a0.2.2.2.2.2.1] r11.1 r11.2).bind fun r12 => ((g65 a0.2.2.2.2.2.2.1 r12.1 r12.2).bind fun r13 => (ret (.inl (r13.1, r13.2)))))) else (bif (a0.1 == (5 : Int)) then ((g27_0 [(ByteArray.mk (List.toArray [115, 112, 108, 105, 116]))] a1 a2).bind fun r14 => ((g56 [a0.2.1, a0.2.2.2.1, a0.2.2.2.2.1] r14.1 r14.2).bind fun r15 => (bif (decide ((a0.2.2.2.2.2.2.2.1.length : Int) > (8 : Int))) then ((g30_0 (2 : Int) r15.1 r15.2).bind fun r16 => (Sum.elim (fun r17 => (ret (.inl (r17.1, r17.2)))) (fun r18 => (ret (.inr (r18)))) r16)) else ((g56 a0.2.2.2.2.2.2.2.1 r15.1 r15.2).bind fun r19 => (ret (.inl (r19.1, r19.2))))))) else (bif (a0.1 == (6 : Int)) then ((g27_0 [(ByteArray.mk (List.toArray [109, 101, 114, 103, 101]))] a1 a2).bind fun r20 => ((g56 [a0.2.1, a0.2.2.1, a0.2.2.2.1] r20.1 r20.2).bind fun r21 => (ret (.inl (r21.1, r21.2))))) else ((g30_0 (1 : Int) a1 a2).bind fun r22 => (Sum.elim (fun r23 => (ret (.inl (r23.1, r23.2)))) (fun r24 => (ret (.inr (r24)))) r22))))))))
def c1 (ret : R → Option β) (a0 : D_api_Change) (a1 : Int) : Option β := (bif (a0.1 == (1 : Int)) then ((g27_1 [(ByteArray.mk (List.toArray [99, 114, 101, 97, 116, 101]))] a1).bind fun r0 => ((g56 [a0.2.2.2.2.2.2.2.2.2.1.1] r0.1 r0.2).bind fun r1 => ((g28 a0.2.2.2.2.2.2.2.2.2.1.2.1 r1.1 r1.2).bind fun r2 => (bif (decide ((a0.2.2.2.2.2.2.2.2.2.1.2.2.1.length : Int) > (8 : Int))) then ((g30_0 (2 : Int) r2.1 r2.2).bind fun r3 => (Sum.elim (fun r4 => (ret (.inl (r4.1, r4.2)))) (fun r5 => (ret (.inr (r5)))) r3)) else ((s0 a0.2.2.2.2.2.2.2.2.2.1.2.2.1 (a0.2.2.2.2.2.2.2.2.2.1.2.2.1.length : Int) (0 : Int) r2.1 r2.2).bind ret))))) else (bif (a0.1 == (2 : Int)) then ((g27_1 [(ByteArray.mk (List.toArray [97, 100, 100]))] a1).bind fun r6 => ((g56 [a0.2.1] r6.1 r6.2).bind fun r7 => ((g64 a0.2.2.2.2.2.2.2.2.1.1 a0.2.2.2.2.2.2.2.2.1.2.1 a0.2.2.2.2.2.2.2.2.1.2.2.1 a0.2.2.2.2.2.2.2.2.1.2.2.2.1.1 a0.2.2.2.2.2.2.2.2.1.2.2.2.1.2.1 a0.2.2.2.2.2.2.2.2.1.2.2.2.1.2.2.1 a0.2.2.2.2.2.2.2.2.1.2.2.2.1.2.2.2.1 r7.1 r7.2).bind fun r8 => (ret (.inl (r8.1, r8.2)))))) else (bif (a0.1 == (3 : Int)) then ((g27_1 [(ByteArray.mk (List.toArray [100, 114, 111, 112]))] a1).bind fun r9 => ((g56 [a0.2.1, a0.2.2.2.2.2.1] r9.1 r9.2).bind fun r10 => (ret (.inl (r10.1, r10.2))))) else (bif (a0.1 == (4 : Int)) then ((g27_1 [(ByteArray.mk (List.toArray [114, 101, 116, 121, 112, 101]))] a1).bind fun r11 => ((g56 [a0.2.1, a0.2.2.2.2.2.1] r11.1 r11.2).bind fun r12 => ((g65 a0.2.2.2.2.2.2.1 r12.1 r12.2).bind fun r13 => (ret (.inl (r13.1, r13.2)))))) else (bif (a0.1 == (5 : Int)) then ((g27_1 [(ByteArray.mk (List.toArray [115, 112, 108, 105, 116]))] a1).bind fun r14 => ((g56 [a0.2.1, a0.2.2.2.1, a0.2.2.2.2.1] r14.1 r14.2).bind fun r15 => (bif (decide ((a0.2.2.2.2.2.2.2.1.length : Int) > (8 : Int))) then ((g30_0 (2 : Int) r15.1 r15.2).bind fun r16 => (Sum.elim (fun r17 => (ret (.inl (r17.1, r17.2)))) (fun r18 => (ret (.inr (r18)))) r16)) else ((g56 a0.2.2.2.2.2.2.2.1 r15.1 r15.2).bind fun r19 => (ret (.inl (r19.1, r19.2))))))) else (bif (a0.1 == (6 : Int)) then ((g27_1 [(ByteArray.mk (List.toArray [109, 101, 114, 103, 101]))] a1).bind fun r20 => ((g56 [a0.2.1, a0.2.2.1, a0.2.2.2.1] r20.1 r20.2).bind fun r21 => (ret (.inl (r21.1, r21.2))))) else ((g30_1 (1 : Int) a1).bind fun r22 => (Sum.elim (fun r23 => (ret (.inl (r23.1, r23.2)))) (fun r24 => (ret (.inr (r24)))) r22))))))))
def s0c (ret : R → Option β) (x0 : List D_api_Col) (x1 x2 x3 : Int) (x4 : List ByteArray) : Option β := (bif (decide (x2 < x1)) then (bif ((decide ((0 : Int) ≤ x2)) && (decide (x2 < (x0.length : Int)))) then ((g64 (elem T_api_Col x0 x2).1 (elem T_api_Col x0 x2).2.1 (elem T_api_Col x0 x2).2.2.1 (elem T_api_Col x0 x2).2.2.2.1.1 (elem T_api_Col x0 x2).2.2.2.1.2.1 (elem T_api_Col x0 x2).2.2.2.1.2.2.1 (elem T_api_Col x0 x2).2.2.2.1.2.2.2.1 x3 x4).bind fun r0 => ((s0 x0 x1 (IntKind.wrap .i64 (x2 + (1 : Int))) r0.1 r0.2).bind ret)) else none) else (ret (.inl (x3, x4))))
variable {g27_0} {g27_1} {g28} {g30_0} {g30_1} {g56} {g64} {g65} {s0}
theorem ev0 : EvA (env g27_0 g27_1 g28 g30_0 g30_1 g56 g64 g65 s0) [] [0, 1] e (A0 (c0 g27_0 g28 g30_0 g56 g64 g65 s0 some)) := fun x y => Eq.trans (b := (A0 (c0 g27_0 g28 g30_0 g56 g64 g65 s0 fun r => some (e r))).G x y) (by kernel_rfl) (by simp only [A0, c0, bo, so, oa, os, on, ofs])
theorem ev1 : EvA (env g27_0 g27_1 g28 g30_0 g30_1 g56 g64 g65 s0) [] [0, 1] e (A1 (c1 g27_1 g28 g30_0 g30_1 g56 g64 g65 s0 some)) := fun x y => Eq.trans (b := (A1 (c1 g27_1 g28 g30_0 g30_1 g56 g64 g65 s0 fun r => some (e r))).G x y) (by kernel_rfl) (by simp only [A1, c1, bo, so, oa, os, on, ofs])
theorem s0_ev : EvA (env g27_0 g27_1 g28 g30_0 g30_1 g56 g64 g65 s0) [4, 1, 1, 1, 1, 1, 2, 1, 4, 1, 1] [0, 35, 36, 37] e (A_0 (s0c g64 s0 some)) := fun x y => Eq.trans (b := (A_0 (s0c g64 s0 fun r => some (e r))).G x y) (by kernel_rfl) (by simp only [A_0, s0c, bo, so, oa, os, on, ofs])
end
def s0 : Nat → S0 R
 | 0, _, _, _, _, _ => none
 | k + 1, x0, x1, x2, x3, x4 => s0c (sw_col.f k) (s0 k) some x0 x1 x2 x3 x4
def f0 (k : Nat) (a0 : D_api_Change) (a1 : Int) (a2 : List ByteArray) : Option R := c0 (sw_word.f0 k) (sw_number.f k) (sw_fail.f0 k) (sw_name.f k) (sw_col.f k) (sw_kind.f k) (s0 k) some a0 a1 a2
def f1 (k : Nat) (a0 : D_api_Change) (a1 : Int) : Option R := c1 (sw_word.f1 k) (sw_number.f k) (sw_fail.f0 k) (sw_fail.f1 k) (sw_name.f k) (sw_col.f k) (sw_kind.f k) (s0 k) some a0 a1
noncomputable abbrev E (k : Nat) : FEnv := env (sw_word.f0 k) (sw_word.f1 k) (sw_number.f k) (sw_fail.f0 k) (sw_fail.f1 k) (sw_name.f k) (sw_col.f k) (sw_kind.f k) (s0 k)
theorem hE (k : Nat) : EnvOK (E k).toEnv := ctsOK (Lc (sw_word.ok k) (Lc (sw_number.ok k) (Lc (sw_fail.ok k) (Lc (sw_name.ok k) (Lc (sw_col.ok k) (Lc (sw_kind.ok k) L0))))))
theorem sk : ∀ k, ∀ s ∈ [sg0 (s0 k)], SegB prog f34 1 s
 | 0 => (Lc (sn (Lc (fun _ _ => rfl) L0)) L0)
 | k + 1 => (Lc (sg_ok (hE k) (sk k) (Lc s0_ev L0)) L0)
theorem ok (k : Nat) : CtOK prog 34 (ct (f0 k) (f1 k)) := fn_okS hk (fn_ok func34 rfl (by decide) (hE k) (sk k) (Lc ev0 (Lc ev1 L0)))
end sw_change
namespace sw_values
abbrev R : Type := (Int × (List ByteArray)) ⊕ Int
def e (r : R) : Res := Sum.elim (fun r =>  ⟨.tup [], [some (.box [(.own 1), (.d (.int .i64) r.1)]), some (.own .str false r.2)]⟩) (fun r =>  ⟨.tup [], [some (.box [(.raw (.slice none 0 0)), (.d (.int .i64) r)])]⟩) r
abbrev T (δ : Type) : Type := (List D_api_Value) → Int → (List ByteArray) → Option δ
abbrev A {δ : Type} (g : T δ) : Arm δ := ⟨[.k (.ptr 0 0), .d (.sl T_api_Value)], [.box [.c (.own 1), .g (.int .i64)], .own .str false], fun x y => g x.2.1 y.1.2.1 y.2.1⟩
abbrev G : Type := T R
def ek {β : Type} (r : R) (K : Res → Option β) : Option β := Sum.elim (fun r => K ⟨.tup [], [some (.box [(.own 1), (.d (.int .i64) r.1)]), some (.own .str false r.2)]⟩) (fun r => K ⟨.tup [], [some (.box [(.raw (.slice none 0 0)), (.d (.int .i64) r)])]⟩) r
theorem hk {β : Type} (r : R) (K : Res → Option β) : ek r K = K (e r) := by rcases r with _ | _ <;> rfl
def ct (g : G) : Ct := mkCtS 1 [] [A g] e ek hk
abbrev S0 (δ : Type) : Type := (List D_api_Value) → Int → Int → Int → (List ByteArray) → Option δ
abbrev A_0 {δ : Type} (s : S0 δ) : Arm δ := ⟨[.k (.ptr 0 0), .d (.sl T_api_Value), .d (.int .i64), .d (.int .i64)], [.box [.c (.own 1), .g (.int .i64)], .own .str false], fun x y => s x.2.1 x.2.2.1 x.2.2.2.1 y.1.2.1 y.2.1⟩
def sg0 (s : S0 R) : Seg := mkSg [4, 1, 1] [] [0, 11, 12, 13] [A_0 s] e
section
variable {β : Type} (g30_0 : sw_fail.G0) (g30_1 : sw_fail.G1) (g84 : sw_value.G) (s0 : S0 R)
noncomputable abbrev env : FEnv := mkEnv prog f57 [(30, sw_fail.ct g30_0 g30_1), (84, sw_value.ct g84)] 1 [] [sg0 s0]
def c (ret : R → Option β) (a0 : List D_api_Value) (a1 : Int) (a2 : List ByteArray) : Option β := (bif (decide ((a0.length : Int) > (8 : Int))) then ((g30_0 (2 : Int) a1 a2).bind fun r0 => (Sum.elim (fun r1 => (ret (.inl (r1.1, r1.2)))) (fun r2 => (ret (.inr (r2)))) r0)) else ((s0 a0 (a0.length : Int) (0 : Int) a1 a2).bind ret))
def s0c (ret : R → Option β) (x0 : List D_api_Value) (x1 x2 x3 : Int) (x4 : List ByteArray) : Option β := (bif (decide (x2 < x1)) then (bif ((decide ((0 : Int) ≤ x2)) && (decide (x2 < (x0.length : Int)))) then ((g84 (elem T_api_Value x0 x2).1 (elem T_api_Value x0 x2).2.1 (elem T_api_Value x0 x2).2.2.1 (elem T_api_Value x0 x2).2.2.2.1 x3 x4).bind fun r0 => ((s0 x0 x1 (IntKind.wrap .i64 (x2 + (1 : Int))) r0.1 r0.2).bind ret)) else none) else (ret (.inl (x3, x4))))
variable {g30_0} {g30_1} {g84} {s0}
theorem ev : EvA (env g30_0 g30_1 g84 s0) [] [0, 1] e (A (c g30_0 s0 some)) := fun x y => Eq.trans (b := (A (c g30_0 s0 fun r => some (e r))).G x y) (by kernel_rfl) (by simp only [A, c, bo, so, oa, os, on, ofs])
theorem s0_ev : EvA (env g30_0 g30_1 g84 s0) [4, 1, 1] [0, 11, 12, 13] e (A_0 (s0c g84 s0 some)) := fun x y => Eq.trans (b := (A_0 (s0c g84 s0 fun r => some (e r))).G x y) (by kernel_rfl) (by simp only [A_0, s0c, bo, so, oa, os, on, ofs])
end
def s0 : Nat → S0 R
 | 0, _, _, _, _, _ => none
 | k + 1, x0, x1, x2, x3, x4 => s0c (sw_value.f k) (s0 k) some x0 x1 x2 x3 x4
def f (k : Nat) (a0 : List D_api_Value) (a1 : Int) (a2 : List ByteArray) : Option R := c (sw_fail.f0 k) (s0 k) some a0 a1 a2
noncomputable abbrev E (k : Nat) : FEnv := env (sw_fail.f0 k) (sw_fail.f1 k) (sw_value.f k) (s0 k)
theorem hE (k : Nat) : EnvOK (E k).toEnv := ctsOK (Lc (sw_fail.ok k) (Lc (sw_value.ok k) L0))
theorem sk : ∀ k, ∀ s ∈ [sg0 (s0 k)], SegB prog f57 1 s
 | 0 => (Lc (sn (Lc (fun _ _ => rfl) L0)) L0)
 | k + 1 => (Lc (sg_ok (hE k) (sk k) (Lc s0_ev L0)) L0)
theorem ok (k : Nat) : CtOK prog 57 (ct (f k)) := fn_okS hk (fn_ok func57 rfl (by decide) (hE k) (sk k) (Lc ev L0))
end sw_values
namespace story_verbs
abbrev R : Type := (List (Int × ByteArray))
def e (r : R) : Res := ⟨.v (.one (.mp 0)), [some (.mp (.int .i64) .str r)]⟩
abbrev T (δ : Type) : Type := Option δ
abbrev A {δ : Type} (g : T δ) : Arm δ := ⟨[], [], fun x y => g⟩
abbrev G : Type := T R
def ct (g : G) : Ct := mkCt 0 [] [A g] e
section
variable {β : Type} 
noncomputable abbrev env : FEnv := mkEnv prog f58 [] 0 [] []
def c (ret : R → Option β)  : Option β := (ret (((((((([] ++ [((1 : Int), (ByteArray.mk (List.toArray [103, 101, 116])))]) ++ [((3 : Int), (ByteArray.mk (List.toArray [105, 110, 115, 101, 114, 116])))]) ++ [((4 : Int), (ByteArray.mk (List.toArray [117, 112, 100, 97, 116, 101])))]) ++ [((5 : Int), (ByteArray.mk (List.toArray [100, 101, 108, 101, 116, 101])))]) ++ [((7 : Int), (ByteArray.mk (List.toArray [98, 101, 103, 105, 110])))]) ++ [((8 : Int), (ByteArray.mk (List.toArray [99, 111, 109, 109, 105, 116])))]) ++ [((9 : Int), (ByteArray.mk (List.toArray [97, 98, 111, 114, 116])))])))
theorem ev : EvA (env) [] [] e (A (c some)) := fun x y => Eq.trans (b := (A (c fun r => some (e r))).G x y) (by kernel_rfl) (by simp only [A, c, bo, so, oa, os, on, ofs])
end
def f (k : Nat)  : Option R := c  some 
noncomputable abbrev E (k : Nat) : FEnv := env  
theorem hE (k : Nat) : EnvOK (E k).toEnv := ctsOK L0
theorem ok (k : Nat) : CtOK prog 58 (ct (f k)) := fn_ok func58 rfl (by decide) (hE k) L0 (Lc ev L0)
end story_verbs
namespace sw_op
abbrev R : Type := (Int × (List ByteArray)) ⊕ Int
def e (r : R) : Res := Sum.elim (fun r =>  ⟨.tup [], [some (.box [(.own 1), (.d (.int .i64) r.1)]), some (.own .str false r.2)]⟩) (fun r =>  ⟨.tup [], [some (.box [(.raw (.slice none 0 0)), (.d (.int .i64) r)])]⟩) r
abbrev T (δ : Type) : Type := D_api_Op → Int → (List ByteArray) → Option δ
abbrev A {δ : Type} (g : T δ) : Arm δ := ⟨[.k (.ptr 0 0), .s T_api_Op], [.box [.c (.own 1), .g (.int .i64)], .own .str false], fun x y => g x.2.1.1 y.1.2.1 y.2.1⟩
abbrev G : Type := T R
def ek {β : Type} (r : R) (K : Res → Option β) : Option β := Sum.elim (fun r => K ⟨.tup [], [some (.box [(.own 1), (.d (.int .i64) r.1)]), some (.own .str false r.2)]⟩) (fun r => K ⟨.tup [], [some (.box [(.raw (.slice none 0 0)), (.d (.int .i64) r)])]⟩) r
theorem hk {β : Type} (r : R) (K : Res → Option β) : ek r K = K (e r) := by rcases r with _ | _ <;> rfl
def ct (g : G) : Ct := mkCtS 1 [] [A g] e ek hk
section
variable {β : Type} (g27_0 : sw_word.G0) (g27_1 : sw_word.G1) (g28 : sw_number.G) (g30_0 : sw_fail.G0) (g30_1 : sw_fail.G1) (g34_0 : sw_change.G0) (g34_1 : sw_change.G1) (g56 : sw_name.G) (g57 : sw_values.G) (g58 : story_verbs.G)
noncomputable abbrev env : FEnv := mkEnv prog f29 [(27, sw_word.ct g27_0 g27_1), (28, sw_number.ct g28), (30, sw_fail.ct g30_0 g30_1), (34, sw_change.ct g34_0 g34_1), (56, sw_name.ct g56), (57, sw_values.ct g57), (58, story_verbs.ct g58)] 1 [] []
def c (ret : R → Option β) (a0 : D_api_Op) (a1 : Int) (a2 : List ByteArray) : Option β := (bif (a0.1 == (2 : Int)) then ((g27_0 [(ByteArray.mk (List.toArray [115, 99, 97, 110]))] a1 a2).bind fun r0 => ((g56 [a0.2.1] r0.1 r0.2).bind fun r1 => ((g28 a0.2.2.2.2.2.1 r1.1 r1.2).bind fun r2 => ((g57 a0.2.2.2.1 r2.1 r2.2).bind fun r3 => (Sum.elim (fun r4 => ((g27_0 [(ByteArray.mk (List.toArray [116, 111]))] r4.1 r4.2).bind fun r5 => ((g57 a0.2.2.2.2.1 r5.1 r5.2).bind fun r6 => (Sum.elim (fun r7 => (ret (.inl (r7.1, r7.2)))) (fun r8 => (ret (.inr (r8)))) r6)))) (fun r9 => ((g27_1 [(ByteArray.mk (List.toArray [116, 111]))] r9).bind fun r10 => ((g57 a0.2.2.2.2.1 r10.1 r10.2).bind fun r11 => (Sum.elim (fun r12 => (ret (.inl (r12.1, r12.2)))) (fun r13 => (ret (.inr (r13)))) r11)))) r3))))) else (bif (a0.1 == (6 : Int)) then ((g27_0 [(ByteArray.mk (List.toArray [99, 104, 97, 110, 103, 101]))] a1 a2).bind fun r14 => ((g34_0 a0.2.2.2.2.2.2.1 r14.1 r14.2).bind fun r15 => (Sum.elim (fun r16 => (ret (.inl (r16.1, r16.2)))) (fun r17 => (ret (.inr (r17)))) r15))) else (g58.bind fun r18 => (bif (!(Option.isSome (findD (kt := (.int .i64)) (et := .str) a0.1 r18))) then ((g30_0 (1 : Int) a1 a2).bind fun r19 => (Sum.elim (fun r20 => (ret (.inl (r20.1, r20.2)))) (fun r21 => (ret (.inr (r21)))) r19)) else ((g27_0 [(Option.getD (findD (kt := (.int .i64)) (et := .str) a0.1 r18) (ByteArray.mk (List.toArray [])))] a1 a2).bind fun r22 => (bif (decide (a0.1 < (7 : Int))) then ((g56 [a0.2.1] r22.1 r22.2).bind fun r23 => ((g57 a0.2.2.1 r23.1 r23.2).bind fun r24 => (Sum.elim (fun r25 => (ret (.inl (r25.1, r25.2)))) (fun r26 => (ret (.inr (r26)))) r24))) else (ret (.inl (r22.1, r22.2)))))))))
variable {g27_0} {g27_1} {g28} {g30_0} {g30_1} {g34_0} {g34_1} {g56} {g57} {g58}
theorem ev : EvA (env g27_0 g27_1 g28 g30_0 g30_1 g34_0 g34_1 g56 g57 g58) [] [0, 1] e (A (c g27_0 g27_1 g28 g30_0 g34_0 g56 g57 g58 some)) := fun x y => Eq.trans (b := (A (c g27_0 g27_1 g28 g30_0 g34_0 g56 g57 g58 fun r => some (e r))).G x y) (by kernel_rfl) (by simp only [A, c, bo, so, oa, os, on, ofs])
end
def f (k : Nat) (a0 : D_api_Op) (a1 : Int) (a2 : List ByteArray) : Option R := c (sw_word.f0 k) (sw_word.f1 k) (sw_number.f k) (sw_fail.f0 k) (sw_change.f0 k) (sw_name.f k) (sw_values.f k) (story_verbs.f k) some a0 a1 a2
noncomputable abbrev E (k : Nat) : FEnv := env (sw_word.f0 k) (sw_word.f1 k) (sw_number.f k) (sw_fail.f0 k) (sw_fail.f1 k) (sw_change.f0 k) (sw_change.f1 k) (sw_name.f k) (sw_values.f k) (story_verbs.f k) 
theorem hE (k : Nat) : EnvOK (E k).toEnv := ctsOK (Lc (sw_word.ok k) (Lc (sw_number.ok k) (Lc (sw_fail.ok k) (Lc (sw_change.ok k) (Lc (sw_name.ok k) (Lc (sw_values.ok k) (Lc (story_verbs.ok k) L0)))))))
theorem ok (k : Nat) : CtOK prog 29 (ct (f k)) := fn_okS hk (fn_ok func29 rfl (by decide) (hE k) L0 (Lc ev L0))
end sw_op
/-! ### strings_Join: function 59 (no body) -/
def strings_Join.ct (g : List ByteArray → ByteArray → Option ByteArray) : Ct where
 nin := 0
 mv := []
 F := fun tvs blks {β} K => match tvs, blks with
  | [.v (.one (.d (.sl .str) a0)), .v (.one (.d .str a1))], [] => (g a0 a1).bind fun r => K ⟨.v (.one (.d .str r)), []⟩
  | _, _ => none
 legit := fun _ _ K _ h => by split at h; exact (legit1 K h :); simp at h
section
open Go.Shelf Go.RowKit
def strings_Join.f (k : Nat) (a0 : List ByteArray) (a1 : ByteArray) : Option ByteArray := if (joinL a0 a1).length ≤ 35184372088832 ∧ a0.length ≤ 35184372088832 then some ⟨(joinL a0 a1).toArray⟩ else none
theorem strings_Join.ok (k : Nat) : CtOK Go.Proofs.Tryz.prog 59 (strings_Join.ct (strings_Join.f k)) := by
 intro tvs blks res hF w S ρ H vals hm hv
 simp only [strings_Join.ct] at hF
 split at hF
 ·rename_i a0 a1
  simp only [strings_Join.f] at hF
  split at hF
  ·rename_i hc
   simp only [os, Option.some.injEq] at hF
   subst hF
   obtain ⟨v0, m0, rfl, h0, hv⟩ := All2.cons_left hv
   obtain ⟨v1, m1, rfl, h1, hv⟩ := All2.cons_left hv
   cases All2.nil_left hv
   have h1 := rep_s h1
   subst h1
   left
   refine ⟨Go.Proofs.enters_of Go.Proofs.Tryz.func59 (by kernel_rfl) rfl _ _, (join_calls v0 a0 a1 w S h0 hm.old hc.1 hc.2).mono fun e w' ⟨h1, h2⟩ => ⟨_, S, ρ, H, h1, ?_, rfl⟩⟩
   have : (fun n => ([] : List (Option Blk))[n]?) = live [] := by funext n; simp [live]
   rw [this]; exact hm.below h2
  ·simp at hF
 ·simp at hF
end


namespace sw_text
abbrev R : Type := (ByteArray × Int × Int × (List ByteArray)) ⊕ (ByteArray × Int × Int)
def e (r : R) : Res := Sum.elim (fun r =>  ⟨.tup [(.one (.d .str r.1)), (.one (.d (.int .i64) r.2.1))], [some (.box [(.own 1), (.d (.int .i64) r.2.2.1)]), some (.own .str false r.2.2.2)]⟩) (fun r =>  ⟨.tup [(.one (.d .str r.1)), (.one (.d (.int .i64) r.2.1))], [some (.box [(.raw (.slice none 0 0)), (.d (.int .i64) r.2.2)])]⟩) r
abbrev T0 (δ : Type) : Type := Int → (List ByteArray) → Option δ
abbrev A0 {δ : Type} (g : T0 δ) : Arm δ := ⟨[.k (.ptr 0 0)], [.box [.c (.own 1), .g (.int .i64)], .own .str false], fun x y => g y.1.2.1 y.2.1⟩
abbrev T1 (δ : Type) : Type := Int → Option δ
abbrev A1 {δ : Type} (g : T1 δ) : Arm δ := ⟨[.k (.ptr 0 0)], [.box [.c .nilS, .g (.int .i64)]], fun x y => g y.1.2.1⟩
abbrev G0 : Type := T0 R
abbrev G1 : Type := T1 R
def ek {β : Type} (r : R) (K : Res → Option β) : Option β := Sum.elim (fun r => K ⟨.tup [(.one (.d .str r.1)), (.one (.d (.int .i64) r.2.1))], [some (.box [(.own 1), (.d (.int .i64) r.2.2.1)]), some (.own .str false r.2.2.2)]⟩) (fun r => K ⟨.tup [(.one (.d .str r.1)), (.one (.d (.int .i64) r.2.1))], [some (.box [(.raw (.slice none 0 0)), (.d (.int .i64) r.2.2)])]⟩) r
theorem hk {β : Type} (r : R) (K : Res → Option β) : ek r K = K (e r) := by rcases r with _ | _ <;> rfl
def ct (g0 : G0) (g1 : G1) : Ct := mkCtS 1 [] [A0 g0, A1 g1] e ek hk
section
variable {β : Type} (g59 : List ByteArray → ByteArray → Option ByteArray)
noncomputable abbrev env : FEnv := mkEnv prog f31 [(59, strings_Join.ct g59)] 1 [] []
def c0 (ret : R → Option β) (a0 : Int) (a1 : List ByteArray) : Option β := (bif (a0 != (0 : Int)) then (ret (.inl ((ByteArray.mk (List.toArray [])), a0, a0, a1))) else ((g59 a1 (ByteArray.mk (List.toArray [32]))).bind fun r0 => (ret (.inl (r0, (0 : Int), a0, a1)))))
def c1 (ret : R → Option β) (a0 : Int) : Option β := (bif (a0 != (0 : Int)) then (ret (.inr ((ByteArray.mk (List.toArray [])), a0, a0))) else ((g59 [] (ByteArray.mk (List.toArray [32]))).bind fun r0 => (ret (.inr (r0, (0 : Int), a0)))))
variable {g59}
theorem ev0 : EvA (env g59) [] [0] e (A0 (c0 g59 some)) := fun x y => Eq.trans (b := (A0 (c0 g59 fun r => some (e r))).G x y) (by kernel_rfl) (by simp only [A0, c0, bo, so, oa, os, on, ofs])
theorem ev1 : EvA (env g59) [] [0] e (A1 (c1 g59 some)) := fun x y => Eq.trans (b := (A1 (c1 g59 fun r => some (e r))).G x y) (by kernel_rfl) (by simp only [A1, c1, bo, so, oa, os, on, ofs])
end
def f0 (k : Nat) (a0 : Int) (a1 : List ByteArray) : Option R := c0 (strings_Join.f k) some a0 a1
def f1 (k : Nat) (a0 : Int) : Option R := c1 (strings_Join.f k) some a0
noncomputable abbrev E (k : Nat) : FEnv := env (strings_Join.f k) 
theorem hE (k : Nat) : EnvOK (E k).toEnv := ctsOK (Lc (strings_Join.ok k) L0)
theorem ok (k : Nat) : CtOK prog 31 (ct (f0 k) (f1 k)) := fn_okS hk (fn_ok func31 rfl (by decide) (hE k) L0 (Lc ev0 (Lc ev1 L0)))
end sw_text
namespace story_Line
abbrev R : Type := ByteArray × Int
def e (r : R) : Res := ⟨.tup [(.one (.d .str r.1)), (.one (.d (.int .i64) r.2))], []⟩
abbrev T (δ : Type) : Type := D_api_Step → Option δ
abbrev A {δ : Type} (g : T δ) : Arm δ := ⟨[.s T_api_Step], [], fun x y => g x.1.1⟩
abbrev G : Type := T R
def ct (g : G) : Ct := mkCt 0 [] [A g] e
section
variable {β : Type} (g26 : story_plain.G) (g27_0 : sw_word.G0) (g27_1 : sw_word.G1) (g28 : sw_number.G) (g29 : sw_op.G) (g30_0 : sw_fail.G0) (g30_1 : sw_fail.G1) (g31_0 : sw_text.G0) (g31_1 : sw_text.G1)
noncomputable abbrev env : FEnv := mkEnv prog f13 [(26, story_plain.ct g26), (27, sw_word.ct g27_0 g27_1), (28, sw_number.ct g28), (29, sw_op.ct g29), (30, sw_fail.ct g30_0 g30_1), (31, sw_text.ct g31_0 g31_1)] 0 [] []
def c (ret : R → Option β) (a0 : D_api_Step) : Option β := (g26.bind fun r0 => (bif (Option.isSome (findD (kt := (.int .i64)) (et := .str) a0.1 r0)) then (ret ((Option.getD (findD (kt := (.int .i64)) (et := .str) a0.1 r0) (ByteArray.mk (List.toArray []))), (0 : Int))) else (bif (a0.1 == (1 : Int)) then ((g27_1 [(ByteArray.mk (List.toArray [97, 115, 107]))] (0 : Int)).bind fun r1 => ((g28 a0.2.1 r1.1 r1.2).bind fun r2 => ((g29 a0.2.2.1 r2.1 r2.2).bind fun r3 => (Sum.elim (fun r4 => ((g31_0 r4.1 r4.2).bind fun r5 => (Sum.elim (fun r6 => (ret (r6.1, r6.2.1))) (fun r7 => (ret (r7.1, r7.2.1))) r5))) (fun r8 => ((g31_1 r8).bind fun r9 => (Sum.elim (fun r10 => (ret (r10.1, r10.2.1))) (fun r11 => (ret (r11.1, r11.2.1))) r9))) r3)))) else (bif (a0.1 == (2 : Int)) then ((g27_1 [(ByteArray.mk (List.toArray [114, 117, 110]))] (0 : Int)).bind fun r12 => ((g28 a0.2.1 r12.1 r12.2).bind fun r13 => ((g31_0 r13.1 r13.2).bind fun r14 => (Sum.elim (fun r15 => (ret (r15.1, r15.2.1))) (fun r16 => (ret (r16.1, r16.2.1))) r14)))) else ((g30_1 (1 : Int) (0 : Int)).bind fun r17 => (Sum.elim (fun r18 => ((g31_0 r18.1 r18.2).bind fun r19 => (Sum.elim (fun r20 => (ret (r20.1, r20.2.1))) (fun r21 => (ret (r21.1, r21.2.1))) r19))) (fun r22 => ((g31_1 r22).bind fun r23 => (Sum.elim (fun r24 => (ret (r24.1, r24.2.1))) (fun r25 => (ret (r25.1, r25.2.1))) r23))) r17))))))
variable {g26} {g27_0} {g27_1} {g28} {g29} {g30_0} {g30_1} {g31_0} {g31_1}
theorem ev : EvA (env g26 g27_0 g27_1 g28 g29 g30_0 g30_1 g31_0 g31_1) [] [0] e (A (c g26 g27_1 g28 g29 g30_1 g31_0 g31_1 some)) := fun x y => Eq.trans (b := (A (c g26 g27_1 g28 g29 g30_1 g31_0 g31_1 fun r => some (e r))).G x y) (by kernel_rfl) (by simp only [A, c, bo, so, oa, os, on, ofs])
end
def f (k : Nat) (a0 : D_api_Step) : Option R := c (story_plain.f k) (sw_word.f1 k) (sw_number.f k) (sw_op.f k) (sw_fail.f1 k) (sw_text.f0 k) (sw_text.f1 k) some a0
noncomputable abbrev E (k : Nat) : FEnv := env (story_plain.f k) (sw_word.f0 k) (sw_word.f1 k) (sw_number.f k) (sw_op.f k) (sw_fail.f0 k) (sw_fail.f1 k) (sw_text.f0 k) (sw_text.f1 k) 
theorem hE (k : Nat) : EnvOK (E k).toEnv := ctsOK (Lc (story_plain.ok k) (Lc (sw_word.ok k) (Lc (sw_number.ok k) (Lc (sw_op.ok k) (Lc (sw_fail.ok k) (Lc (sw_text.ok k) L0))))))
theorem ok (k : Nat) : CtOK prog 13 (ct (f k)) := fn_ok func13 rfl (by decide) (hE k) L0 (Lc ev L0)
end story_Line
namespace words_quoted
def e (r : Int) : Res := ⟨.v (.one (.d (.int .i64) r)), []⟩
abbrev T (δ : Type) : Type := ByteArray → Int → Option δ
abbrev A {δ : Type} (g : T δ) : Arm δ := ⟨[.d .str, .d (.int .i64)], [], fun x y => g x.1 x.2.1⟩
abbrev G : Type := T Int
def ct (g : G) : Ct := mkCt 0 [] [A g] e
abbrev S0 (δ : Type) : Type := ByteArray → Int → Option δ
abbrev A_0 {δ : Type} (s : S0 δ) : Arm δ := ⟨[.d .str, .d (.int .i64)], [], fun x y => s x.1 x.2.1⟩
def sg0 (s : S0 Int) : Seg := mkSg [100, 1] [] [0, 5] [A_0 s] e
section
variable {β : Type} (s0 : S0 Int)
noncomputable abbrev env : FEnv := mkEnv prog f40 [] 0 [] [sg0 s0]
def c (ret : Int → Option β) (a0 : ByteArray) (a1 : Int) : Option β := (bif (decide ((IntKind.wrap .i64 (a1 + (1 : Int))) ≥ (a0.size : Int))) then (ret ((-1 : Int))) else (bif ((decide ((0 : Int) ≤ (IntKind.wrap .i64 (a1 + (1 : Int))))) && (decide ((IntKind.wrap .i64 (a1 + (1 : Int))) < (a0.size : Int)))) then (bif ((bt a0 (IntKind.wrap .i64 (a1 + (1 : Int)))) == (34 : Int)) then (ret ((IntKind.wrap .i64 ((IntKind.wrap .i64 (a1 + (1 : Int))) + (1 : Int))))) else (bif ((decide ((0 : Int) ≤ (IntKind.wrap .i64 (a1 + (1 : Int))))) && (decide ((IntKind.wrap .i64 (a1 + (1 : Int))) < (a0.size : Int)))) then (bif ((bt a0 (IntKind.wrap .i64 (a1 + (1 : Int)))) == (92 : Int)) then ((s0 a0 (IntKind.wrap .i64 ((IntKind.wrap .i64 ((IntKind.wrap .i64 (a1 + (1 : Int))) + (1 : Int))) + (1 : Int)))).bind ret) else ((s0 a0 (IntKind.wrap .i64 ((IntKind.wrap .i64 (a1 + (1 : Int))) + (1 : Int)))).bind ret)) else none)) else none))
def s0c (ret : Int → Option β) (x0 : ByteArray) (x1 : Int) : Option β := (bif (decide (x1 ≥ (x0.size : Int))) then (ret ((-1 : Int))) else (bif ((decide ((0 : Int) ≤ x1)) && (decide (x1 < (x0.size : Int)))) then (bif ((bt x0 x1) == (34 : Int)) then (ret ((IntKind.wrap .i64 (x1 + (1 : Int))))) else (bif ((decide ((0 : Int) ≤ x1)) && (decide (x1 < (x0.size : Int)))) then (bif ((bt x0 x1) == (92 : Int)) then ((s0 x0 (IntKind.wrap .i64 ((IntKind.wrap .i64 (x1 + (1 : Int))) + (1 : Int)))).bind ret) else ((s0 x0 (IntKind.wrap .i64 (x1 + (1 : Int)))).bind ret)) else none)) else none))
variable {s0}
theorem ev : EvA (env s0) [] [0, 1] e (A (c s0 some)) := fun x y => Eq.trans (b := (A (c s0 fun r => some (e r))).G x y) (by kernel_rfl) (by simp only [A, c, bo, so, oa, os, on, ofs])
theorem s0_ev : EvA (env s0) [100, 1] [0, 5] e (A_0 (s0c s0 some)) := fun x y => Eq.trans (b := (A_0 (s0c s0 fun r => some (e r))).G x y) (by kernel_rfl) (by simp only [A_0, s0c, bo, so, oa, os, on, ofs])
end
def s0 : Nat → S0 Int
 | 0, _, _ => none
 | k + 1, x0, x1 => s0c (s0 k) some x0 x1
def f (k : Nat) (a0 : ByteArray) (a1 : Int) : Option Int := c (s0 k) some a0 a1
noncomputable abbrev E (k : Nat) : FEnv := env  (s0 k)
theorem hE (k : Nat) : EnvOK (E k).toEnv := ctsOK L0
theorem sk : ∀ k, ∀ s ∈ [sg0 (s0 k)], SegB prog f40 0 s
 | 0 => (Lc (sn (Lc (fun _ _ => rfl) L0)) L0)
 | k + 1 => (Lc (sg_ok (hE k) (sk k) (Lc s0_ev L0)) L0)
theorem ok (k : Nat) : CtOK prog 40 (ct (f k)) := fn_ok func40 rfl (by decide) (hE k) (sk k) (Lc ev L0)
end words_quoted
end Go.Proofs.YtimadphjdkjgaaaGreatDoor.Aev
