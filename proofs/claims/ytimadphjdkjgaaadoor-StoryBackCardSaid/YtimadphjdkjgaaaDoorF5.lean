import Derived.Test.YtimadphjdkjgaaaDoorTys
import Derived.Test.YtimadphjdkjgaaaDoorProg
import Derived.Laws.Externs
import Derived.Lib.Bytealg
import Derived.Test.YtimadphjdkjgaaaDoorF2
import Derived.Test.YtimadphjdkjgaaaDoorF3
import Derived.Test.YtimadphjdkjgaaaDoorF4
import Derived.Test.YtimadphjdkjgaaaDoorAevY
import Derived.Test.YtimadphjdkjgaaaDoorAevZ
import Derived.Below
import Derived.Lib.SliceRun
import Derived.Lib.Walk
import Derived.RowKitTokens
import Derived.Shelf.RegionOpenPlain
import Derived.WalkKit
/- By a program of this session (AEV): functions of the program as plain functions, and that the machine does what they say. -/
namespace Go.Proofs.YtimadphjdkjgaaaDoor.Aev
set_option linter.unusedVariables false
set_option linter.unusedSimpArgs false
set_option maxRecDepth 100000
set_option maxHeartbeats 4000000
open Go Go.Proofs.Tryd
namespace sr_values
abbrev R : Type := (List D_api_Value) × (List ByteArray) × Bool
def e (r : R) : Res := ⟨.v (.one (.d (.sl T_api_Value) r.1)), [some (.box [(.d (.sl .str) r.2.1), (.d .bool r.2.2)])]⟩
abbrev T0 (δ : Type) : Type := (List ByteArray) → (List ByteArray) → Bool → Option δ
abbrev A0 {δ : Type} (g : T0 δ) : Arm δ := ⟨[.k (.ptr 0 0), .d (.sl .str)], [.box [.g T_story_reader]], fun x y => g x.2.1 y.1.1.1 y.1.1.2.1⟩
abbrev T1 (δ : Type) : Type := (List ByteArray) → Bool → Option δ
abbrev A1 {δ : Type} (g : T1 δ) : Arm δ := ⟨[.k (.ptr 0 0), .d (.sl .str)], [.box [.c .nilS, .g .bool]], fun x y => g x.2.1 y.1.2.1⟩
abbrev G0 : Type := T0 R
abbrev G1 : Type := T1 R
def ct (g0 : G0) (g1 : G1) : Ct := mkCt 1 [] [A0 g0, A1 g1] e
abbrev S0 (δ : Type) : Type := (List ByteArray) → Int → Int → (List ByteArray) → Bool → (List D_api_Value) → Option δ
abbrev A_0 {δ : Type} (s : S0 δ) : Arm δ := ⟨[.k (.ptr 0 0), .k (.own 1), .d (.sl .str), .d (.int .i64), .d (.int .i64)], [.box [.g T_story_reader], .own T_api_Value false], fun x y => s x.2.2.1 x.2.2.2.1 x.2.2.2.2.1 y.1.1.1 y.1.1.2.1 y.2.1⟩
abbrev S1 (δ : Type) : Type := (List ByteArray) → Int → Int → (List ByteArray) → Bool → (List D_api_Value) → Int → Int → Int → ByteArray → Option δ
abbrev A_1 {δ : Type} (s : S1 δ) : Arm δ := ⟨[.k (.ptr 0 0), .k (.own 1), .k (.ptr 2 0), .d (.sl .str), .d (.int .i64), .d (.int .i64)], [.box [.g T_story_reader], .own T_api_Value false, .box [.g T_api_Value]], fun x y => s x.2.2.2.1 x.2.2.2.2.1 x.2.2.2.2.2.1 y.1.1.1 y.1.1.2.1 y.2.1 y.2.2.1.1.1 y.2.2.1.1.2.1 y.2.2.1.1.2.2.1 y.2.2.1.1.2.2.2.1⟩
abbrev S2 (δ : Type) : Type := (List ByteArray) → Int → Int → (List ByteArray) → Bool → (List D_api_Value) → Option δ
abbrev A_2 {δ : Type} (s : S2 δ) : Arm δ := ⟨[.k (.ptr 0 0), .k (.own 1), .d (.sl .str), .d (.int .i64), .d (.int .i64)], [.box [.g T_story_reader], .own T_api_Value false], fun x y => s x.2.2.1 x.2.2.2.1 x.2.2.2.2.1 y.1.1.1 y.1.1.2.1 y.2.1⟩
def sg0 (s : S0 R) : Seg := mkSg [4, 1, 0, 1, 1] [.cellDat 0 0 (.sl .str), .own 5 T_api_Value] [0, 5, 10, 11, 12] [A_0 s] e
def sg1 (s : S1 R) : Seg := mkSg [1, 1, 1, 4, 0, 1, 1, 5, 4, 1, 0, 1, 1] [] [0, 5, 8, 10, 11, 12] [A_1 s] e
def sg2 (s : S2 R) : Seg := mkSg [1, 1, 1, 5, 4, 1, 0, 1, 1] [] [0, 5, 10, 11, 12] [A_2 s] e
section
variable {β : Type} (g54 : words_Value.G) (s0 : S0 R) (s1 : S1 R) (s2 : S2 R)
noncomputable abbrev env : FEnv := mkEnv prog f45 [(54, words_Value.ct g54)] 1 [] [sg0 s0, sg1 s1, sg2 s2]
def c0 (ret : R → Option β) (a0 a1 : List ByteArray) (a2 : Bool) : Option β := ((s0 a0 (a0.length : Int) (0 : Int) a1 a2 []).bind ret)
def c1 (ret : R → Option β) (a0 : List ByteArray) (a1 : Bool) : Option β := ((s0 a0 (a0.length : Int) (0 : Int) [] a1 []).bind ret)
def s0c (ret : R → Option β) (x0 : List ByteArray) (x1 x2 : Int) (x3 : List ByteArray) (x4 : Bool) (x5 : List D_api_Value) : Option β := (bif (decide (x2 < x1)) then (bif ((decide ((0 : Int) ≤ x2)) && (decide (x2 < (x0.length : Int)))) then ((g54 (elem Ty.str x0 x2)).bind fun r0 => (bif x4 then ((s1 x0 x1 x2 x3 true x5 r0.1 r0.2.1 r0.2.2.1 r0.2.2.2.1).bind ret) else ((s1 x0 x1 x2 x3 (r0.2.2.2.2 != (0 : Int)) x5 r0.1 r0.2.1 r0.2.2.1 r0.2.2.2.1).bind ret))) else none) else (ret (x5, x3, x4)))
def s1c (ret : R → Option β) (x0 : List ByteArray) (x1 x2 : Int) (x3 : List ByteArray) (x4 : Bool) (x5 : List D_api_Value) (x6 x7 x8 : Int) (x9 : ByteArray) : Option β := (bif (decide (((x5.length + (1 : Nat)) * (40 : Nat)) ≤ (35184372088832 : Nat))) then ((s2 x0 x1 x2 x3 x4 (x5 ++ [(x6, (x7, (x8, (x9, ()))))])).bind ret) else none)
def s2c (ret : R → Option β) (x0 : List ByteArray) (x1 x2 : Int) (x3 : List ByteArray) (x4 : Bool) (x5 : List D_api_Value) : Option β := ((s0 x0 x1 (IntKind.wrap .i64 (x2 + (1 : Int))) x3 x4 x5).bind ret)
variable {g54} {s0} {s1} {s2}
theorem ev0 : EvA (env g54 s0 s1 s2) [] [0, 1] e (A0 (c0 s0 some)) := fun x y => Eq.trans (b := (A0 (c0 s0 fun r => some (e r))).G x y) (by kernel_rfl) (by simp only [A0, c0, bo, so, oa, os, on, ofs])
theorem ev1 : EvA (env g54 s0 s1 s2) [] [0, 1] e (A1 (c1 s0 some)) := fun x y => Eq.trans (b := (A1 (c1 s0 fun r => some (e r))).G x y) (by kernel_rfl) (by simp only [A1, c1, bo, so, oa, os, on, ofs])
theorem s0_ev : EvA (env g54 s0 s1 s2) [4, 1, 0, 1, 1] [0, 5, 10, 11, 12] e (A_0 (s0c g54 s1 some)) := fun x y => Eq.trans (b := (A_0 (s0c g54 s1 fun r => some (e r))).G x y) (by kernel_rfl) (by simp only [A_0, s0c, bo, so, oa, os, on, ofs])
theorem s1_ev : EvA (env g54 s0 s1 s2) [1, 1, 1, 4, 0, 1, 1, 5, 4, 1, 0, 1, 1] [0, 5, 8, 10, 11, 12] e (A_1 (s1c s2 some)) := fun x y => Eq.trans (b := (A_1 (s1c s2 fun r => some (e r))).G x y) (by kernel_rfl) (by simp only [A_1, s1c, bo, so, oa, os, on, ofs])
theorem s2_ev : EvA (env g54 s0 s1 s2) [1, 1, 1, 5, 4, 1, 0, 1, 1] [0, 5, 10, 11, 12] e (A_2 (s2c s0 some)) := fun x y => Eq.trans (b := (A_2 (s2c s0 fun r => some (e r))).G x y) (by kernel_rfl) (by simp only [A_2, s2c, bo, so, oa, os, on, ofs])
end
mutual
def s0 : Nat → S0 R
 | 0, _, _, _, _, _, _ => none
 | k + 1, x0, x1, x2, x3, x4, x5 => s0c (words_Value.f k) (s1 k) some x0 x1 x2 x3 x4 x5
def s1 : Nat → S1 R
 | 0, _, _, _, _, _, _, _, _, _, _ => none
 | k + 1, x0, x1, x2, x3, x4, x5, x6, x7, x8, x9 => s1c (s2 k) some x0 x1 x2 x3 x4 x5 x6 x7 x8 x9
def s2 : Nat → S2 R
 | 0, _, _, _, _, _, _ => none
 | k + 1, x0, x1, x2, x3, x4, x5 => s2c (s0 k) some x0 x1 x2 x3 x4 x5
end
def f0 (k : Nat) (a0 a1 : List ByteArray) (a2 : Bool) : Option R := c0 (s0 k) some a0 a1 a2
def f1 (k : Nat) (a0 : List ByteArray) (a1 : Bool) : Option R := c1 (s0 k) some a0 a1
noncomputable abbrev E (k : Nat) : FEnv := env (words_Value.f k) (s0 k) (s1 k) (s2 k)
theorem hE (k : Nat) : EnvOK (E k).toEnv := ctsOK (Lc (words_Value.ok k) L0)
theorem sk : ∀ k, ∀ s ∈ [sg0 (s0 k), sg1 (s1 k), sg2 (s2 k)], SegB prog f45 1 s
 | 0 => (Lc (sn (Lc (fun _ _ => rfl) L0)) (Lc (sn (Lc (fun _ _ => rfl) L0)) (Lc (sn (Lc (fun _ _ => rfl) L0)) L0)))
 | k + 1 => (Lc (sg_ok (hE k) (sk k) (Lc s0_ev L0)) (Lc (sg_ok (hE k) (sk k) (Lc s1_ev L0)) (Lc (sg_ok (hE k) (sk k) (Lc s2_ev L0)) L0)))
theorem ok (k : Nat) : CtOK prog 45 (ct (f0 k) (f1 k)) := fn_ok func45 rfl (by decide) (hE k) (sk k) (Lc ev0 (Lc ev1 L0))
end sr_values
namespace values_Kind
def e (r : Int) : Res := ⟨.v (.one (.d (.int .i64) r)), []⟩
abbrev T (δ : Type) : Type := ByteArray → Option δ
abbrev A {δ : Type} (g : T δ) : Arm δ := ⟨[.d .str], [], fun x y => g x.1⟩
abbrev G : Type := T Int
def ct (g : G) : Ct := mkCt 0 [] [A g] e
abbrev S0 (δ : Type) : Type := ByteArray → Int → Option δ
abbrev A_0 {δ : Type} (s : S0 δ) : Arm δ := ⟨[.d .str, .d (.int .i64)], [], fun x y => s x.1 x.2.1⟩
def sg0 (s : S0 Int) : Seg := mkSg [4, 1, 0, 1] [] [0, 4] [A_0 s] e
section
variable {β : Type} (g64 : values_word.G) (s0 : S0 Int)
noncomputable abbrev env : FEnv := mkEnv prog f56 [(64, values_word.ct g64)] 0 [] [sg0 s0]
def c (ret : Int → Option β) (a0 : ByteArray) : Option β := ((s0 a0 (0 : Int)).bind ret)
def s0c (ret : Int → Option β) (x0 : ByteArray) (x1 : Int) : Option β := (bif (decide (x1 < (6 : Int))) then ((g64 x1).bind fun r0 => (bif (r0.toList == x0.toList) then (ret (x1)) else ((s0 x0 (IntKind.wrap .i64 (x1 + (1 : Int)))).bind ret))) else (ret ((-1 : Int))))
variable {g64} {s0}
theorem ev : EvA (env g64 s0) [] [0] e (A (c s0 some)) := fun x y => Eq.trans (b := (A (c s0 fun r => some (e r))).G x y) (by kernel_rfl) (by simp only [A, c, bo, so, oa, os, on, ofs])
theorem s0_ev : EvA (env g64 s0) [4, 1, 0, 1] [0, 4] e (A_0 (s0c g64 s0 some)) := fun x y => Eq.trans (b := (A_0 (s0c g64 s0 fun r => some (e r))).G x y) (by kernel_rfl) (by simp only [A_0, s0c, bo, so, oa, os, on, ofs])
end
def s0 : Nat → S0 Int
 | 0, _, _ => none
 | k + 1, x0, x1 => s0c (values_word.f k) (s0 k) some x0 x1
def f (k : Nat) (a0 : ByteArray) : Option Int := c (s0 k) some a0
noncomputable abbrev E (k : Nat) : FEnv := env (values_word.f k) (s0 k)
theorem hE (k : Nat) : EnvOK (E k).toEnv := ctsOK (Lc (values_word.ok k) L0)
theorem sk : ∀ k, ∀ s ∈ [sg0 (s0 k)], SegB prog f56 0 s
 | 0 => (Lc (sn (Lc (fun _ _ => rfl) L0)) L0)
 | k + 1 => (Lc (sg_ok (hE k) (sk k) (Lc s0_ev L0)) L0)
theorem ok (k : Nat) : CtOK prog 56 (ct (f k)) := fn_ok func56 rfl (by decide) (hE k) (sk k) (Lc ev L0)
end values_Kind
namespace sr_col
abbrev R : Type := ByteArray × Int × Bool × Int × Int × Int × ByteArray × (List ByteArray) × Bool
def e (r : R) : Res := ⟨.v (.agg [(.d .str r.1), (.d (.int .i64) r.2.1), (.d .bool r.2.2.1), (.d (.int .i64) r.2.2.2.1), (.d (.int .i64) r.2.2.2.2.1), (.d (.int .u64) r.2.2.2.2.2.1), (.d .str r.2.2.2.2.2.2.1)]), [some (.box [(.d (.sl .str) r.2.2.2.2.2.2.2.1), (.d .bool r.2.2.2.2.2.2.2.2)])]⟩
abbrev T (δ : Type) : Type := (List ByteArray) → Bool → Option δ
abbrev A {δ : Type} (g : T δ) : Arm δ := ⟨[.k (.ptr 0 0)], [.box [.g T_story_reader]], fun x y => g y.1.1.1 y.1.1.2.1⟩
abbrev G : Type := T R
def ct (g : G) : Ct := mkCt 1 [] [A g] e
abbrev S0 (δ : Type) : Type := Int → (List ByteArray) → Bool → ByteArray → Int → Bool → Int → Int → Int → ByteArray → ByteArray → Int → Bool → Int → Int → Int → ByteArray → (List ByteArray) → Option δ
abbrev A_0 {δ : Type} (s : S0 δ) : Arm δ := ⟨[.k (.ptr 0 0), .k (.ptr 1 0), .k (.ptr 2 0), .k (.arr 3 4), .d (.int .i64)], [.box [.g T_story_reader], .box [.g T_api_Col], .box [.g T_api_Col], .own .str true], fun x y => s x.2.2.2.2.1 y.1.1.1 y.1.1.2.1 y.2.1.1.1 y.2.1.1.2.1 y.2.1.1.2.2.1 y.2.1.1.2.2.2.1.1 y.2.1.1.2.2.2.1.2.1 y.2.1.1.2.2.2.1.2.2.1 y.2.1.1.2.2.2.1.2.2.2.1 y.2.2.1.1.1 y.2.2.1.1.2.1 y.2.2.1.1.2.2.1 y.2.2.1.1.2.2.2.1.1 y.2.2.1.1.2.2.2.1.2.1 y.2.2.1.1.2.2.2.1.2.2.1 y.2.2.1.1.2.2.2.1.2.2.2.1 y.2.2.2.1⟩
def sg0 (s : S0 R) : Seg := mkSg [4, 1, 0, 1, 1, 1] [] [0, 2, 3, 4, 7] [A_0 s] e
section
variable {β : Type} (g31 : sr_next.G) (g45_0 : sr_values.G0) (g45_1 : sr_values.G1) (g56 : values_Kind.G) (s0 : S0 R)
noncomputable abbrev env : FEnv := mkEnv prog f55 [(31, sr_next.ct g31), (45, sr_values.ct g45_0 g45_1), (56, values_Kind.ct g56)] 1 [] [sg0 s0]
def c (ret : R → Option β) (a0 : List ByteArray) (a1 : Bool) : Option β := ((s0 (0 : Int) a0 a1 (ByteArray.mk (List.toArray [])) (0 : Int) false (0 : Int) (0 : Int) (0 : Int) (ByteArray.mk (List.toArray [])) (ByteArray.mk (List.toArray [])) (0 : Int) false (0 : Int) (0 : Int) (0 : Int) (ByteArray.mk (List.toArray [])) [(ByteArray.mk (List.toArray [])), (ByteArray.mk (List.toArray [])), (ByteArray.mk (List.toArray [])), (ByteArray.mk (List.toArray []))]).bind ret)
def s0c (ret : R → Option β) (x0 : Int) (x1 : List ByteArray) (x2 : Bool) (x3 : ByteArray) (x4 : Int) (x5 : Bool) (x6 x7 x8 : Int) (x9 x10 : ByteArray) (x11 : Int) (x12 : Bool) (x13 x14 x15 : Int) (x16 : ByteArray) (x17 : List ByteArray) : Option β := (bif (decide (x0 < (4 : Int))) then ((g31 x1 x2).bind fun r0 => (bif ((decide ((0 : Int) ≤ x0)) && (decide (x0 < (4 : Int)))) then ((s0 (IntKind.wrap .i64 (x0 + (1 : Int))) r0.2.1 r0.2.2 x3 x4 x5 x6 x7 x8 x9 x10 x11 x12 x13 x14 x15 x16 (List.set x17 (Int.toNat x0) r0.1)).bind ret) else none)) else ((g56 (elem Ty.str x17 (1 : Int))).bind fun r1 => ((g45_0 (List.take (1 : Nat) (List.drop (3 : Nat) x17)) x1 x2).bind fun r2 => (bif (true && (decide ((0 : Int) < (r2.1.length : Int)))) then (ret ((elem Ty.str x17 (0 : Int)), r1, ((ByteArray.toList (elem Ty.str x17 (2 : Int))) == (ByteArray.toList (ByteArray.mk (List.toArray [110, 117, 108, 108])))), (elem T_api_Value r2.1 (0 : Int)).1, (elem T_api_Value r2.1 (0 : Int)).2.1, (elem T_api_Value r2.1 (0 : Int)).2.2.1, (elem T_api_Value r2.1 (0 : Int)).2.2.2.1, r2.2.1, r2.2.2)) else none))))
variable {g31} {g45_0} {g45_1} {g56} {s0}
theorem ev : EvA (env g31 g45_0 g45_1 g56 s0) [] [0] e (A (c s0 some)) := fun x y => Eq.trans (b := (A (c s0 fun r => some (e r))).G x y) (by kernel_rfl) (by simp only [A, c, bo, so, oa, os, on, ofs])
theorem s0_ev : EvA (env g31 g45_0 g45_1 g56 s0) [4, 1, 0, 1, 1, 1] [0, 2, 3, 4, 7] e (A_0 (s0c g31 g45_0 g56 s0 some)) := fun x y => Eq.trans (b := (A_0 (s0c g31 g45_0 g56 s0 fun r => some (e r))).G x y) (by kernel_rfl) (by simp only [A_0, s0c, bo, so, oa, os, on, ofs])
end
def s0 : Nat → S0 R
 | 0, _, _, _, _, _, _, _, _, _, _, _, _, _, _, _, _, _, _ => none
 | k + 1, x0, x1, x2, x3, x4, x5, x6, x7, x8, x9, x10, x11, x12, x13, x14, x15, x16, x17 => s0c (sr_next.f k) (sr_values.f0 k) (values_Kind.f k) (s0 k) some x0 x1 x2 x3 x4 x5 x6 x7 x8 x9 x10 x11 x12 x13 x14 x15 x16 x17
def f (k : Nat) (a0 : List ByteArray) (a1 : Bool) : Option R := c (s0 k) some a0 a1
noncomputable abbrev E (k : Nat) : FEnv := env (sr_next.f k) (sr_values.f0 k) (sr_values.f1 k) (values_Kind.f k) (s0 k)
theorem hE (k : Nat) : EnvOK (E k).toEnv := ctsOK (Lc (sr_next.ok k) (Lc (sr_values.ok k) (Lc (values_Kind.ok k) L0)))
theorem sk : ∀ k, ∀ s ∈ [sg0 (s0 k)], SegB prog f55 1 s
 | 0 => (Lc (sn (Lc (fun _ _ => rfl) L0)) L0)
 | k + 1 => (Lc (sg_ok (hE k) (sk k) (Lc s0_ev L0)) L0)
theorem ok (k : Nat) : CtOK prog 55 (ct (f k)) := fn_ok func55 rfl (by decide) (hE k) (sk k) (Lc ev L0)
end sr_col
/-! ### sCl: function 57 (no body) -/
def sCl.ct (g : List ByteArray → Option (List ByteArray)) : Ct where
 nin := 0
 mv := []
 F := fun tvs blks {β} K => match tvs, blks with
  | [.v (.one (.d (.sl .str) a0))], [] => (g a0).bind fun r => K ⟨.v (.one (.d (.sl .str) r)), []⟩
  | _, _ => none
 legit := fun _ _ K _ h => by split at h; exact (legit1 K h :); simp at h
section
open Go.RowKit Go.Lib Go.Shelf
theorem sCl.tsl : Go.Proofs.Tryd.prog.underlying 23 = some (.slice 9) := by kernel_rfl
theorem sCl.info : ∃ i0, Go.Proofs.Tryd.prog.info? 9 = some i0 ∧ i0.zero = some (.string ByteArray.empty) ∧ i0.size = 1 ∧ i0.bytes = 16 := ⟨_, rfl, by kernel_rfl, by kernel_rfl, by kernel_rfl⟩
theorem sCl.none_calls (cap : Nat) (w : World) : Calls Go.Proofs.Tryd.prog 57 #[.slice none 0 cap] w fun e w' => ∃ v', e = .returned v' ∧ w'.ownsRow w.heap.size 9 1 v' 0 [] ∧ Below w.heap.size w w' := by
 have t24 := sCl.tsl
 have q24 : ∀ (w : World) (a : Option Addr) (n c n' c' : Nat), (binOp .eql 23 (.slice a n c) (.slice none n' c')).run Go.Proofs.Tryd.prog w = .ok (.bool a.isNone) w := fun w a n c n' c' => Lib.run_eql_slice_nil w _ _ a n c n' c' t24
 go_enter Go.Proofs.Tryd.func57, Go.Proofs.Tryd.ntmps57
 go_wp2
 go_ret
 exact ⟨_, rfl, ⟨rfl, .inl ⟨rfl, rfl⟩⟩, Below.refl _ _⟩
theorem sCl.zero_calls (a : Addr) (cap : Nat) (w : World) : Calls Go.Proofs.Tryd.prog 57 #[.slice (some a) 0 cap] w fun e w' => ∃ v', e = .returned v' ∧ w'.ownsRow w.heap.size 9 1 v' 0 [] ∧ Below w.heap.size w w' := by
 have t24 := sCl.tsl
 obtain ⟨i0, hi, hz0, hz1, hz2⟩ := sCl.info
 have q24 : ∀ (w : World) (a : Option Addr) (n c n' c' : Nat), (binOp .eql 23 (.slice a n c) (.slice none n' c')).run Go.Proofs.Tryd.prog w = .ok (.bool a.isNone) w := fun w a n c n' c' => Lib.run_eql_slice_nil w _ _ a n c n' c' t24
 have u24 : ∀ w, Sem.run Go.Proofs.Tryd.prog (underlying 23) w = .ok (TypeDesc.slice 9) w := run_underlying t24
 go_enter Go.Proofs.Tryd.func57, Go.Proofs.Tryd.ntmps57
 go_wp2_with (at_builtin; refine wpList_append_own _ rfl _ _ 23 rfl w.heap.size 9 i0 (.string { data := #[] }) 1 16 t24 hi hz0 hz1 hz2 rfl (by decide) _ _ _ rfl (World.ownsRow_made w #[] 0 (Nat.le_refl _) (Nat.zero_le _) rfl) a 0 cap [] rfl rfl (by intro j u hj; simp at hj) (by intro u hu; cases hu) (by unfold maxLen; omega) (by omega) (by simp) ?_)
 intro v' w1 hown hgrow hnil
 go_wp2
 go_ret
 exact ⟨v', rfl, by simpa using hown, ((Below.refl _ w).alloc (Nat.le_refl _) _).grown hgrow (by simp) (by intro k hk; simp [Value.ownBlock] at hk; omega)⟩
theorem sCl.row_calls (b off c n : Nat) (zs : List ByteArray) (w : World) (hn : zs.length = n) (hbig : n * 16 ≤ 140737488355328) (hc : ∀ j, j < n → w.cell? ⟨b, off + j, none⟩ = some (.string (zs.getD j ByteArray.empty))) :
  Calls Go.Proofs.Tryd.prog 57 #[.slice (some ⟨b, off, none⟩) n c] w fun e w' => ∃ v', e = .returned v' ∧ w'.ownsRow w.heap.size 9 1 v' n (zs.map Value.string) ∧ Below w.heap.size w w' := by
 have t24 := sCl.tsl
 obtain ⟨i0, hi, hz0, hz1, hz2⟩ := sCl.info
 have q24 : ∀ (w : World) (a : Option Addr) (n c n' c' : Nat), (binOp .eql 23 (.slice a n c) (.slice none n' c')).run Go.Proofs.Tryd.prog w = .ok (.bool a.isNone) w := fun w a n c n' c' => Lib.run_eql_slice_nil w _ _ a n c n' c' t24
 have u24 : ∀ w, Sem.run Go.Proofs.Tryd.prog (underlying 23) w = .ok (TypeDesc.slice 9) w := run_underlying t24
 have A : Hid (∀ j, j < n → w.cell? ⟨b, off + j, none⟩ = some (.string (zs.getD j ByteArray.empty))) := hc
 clear hc
 have HN : Hid (zs.length = n) := hn
 clear hn
 go_enter Go.Proofs.Tryd.func57, Go.Proofs.Tryd.ntmps57
 go_wp2_with (at_builtin; refine wpList_append_own _ rfl _ _ 23 rfl w.heap.size 9 i0 (.string { data := #[] }) 1 16 t24 hi hz0 hz1 hz2 rfl (by decide) _ _ _ rfl (World.ownsRow_made w #[] 0 (Nat.le_refl _) (Nat.zero_le _) rfl) ⟨b, off, none⟩ n c (zs.map Value.string) rfl ?qc1 ?qc2 ?qc3 ?qc4 ?qc5 ?qc6 ?_)
 case qc1 => simp [HN.out]
 case qc2 =>
  intro j u hj
  have hjn : j < n := by
   have := (List.getElem?_eq_some_iff.1 hj).1
   simp [HN.out] at this
   omega
  rw [Addr.add_lit]
  refine Lib.cell?_alloc_some _ ?_
  rw [A.out j hjn]
  have hz : j < zs.length := by rw [HN.out]; exact hjn
  have e : (zs.map Value.string)[j]? = some (Value.string (zs.getD j ByteArray.empty)) := by simp [List.getD, List.getElem?_eq_getElem hz]
  rw [e] at hj
  exact hj
 case qc3 => intro u hu; obtain ⟨x, _, rfl⟩ := List.mem_map.1 hu; rfl
 case qc4 => unfold maxLen; omega
 case qc5 => omega
 case qc6 => simp
 intro v' w1 hown hgrow hnil
 go_wp2
 go_ret
 exact ⟨v', rfl, by simpa using hown, ((Below.refl _ w).alloc (Nat.le_refl _) _).grown hgrow (by simp) (by intro k hk; simp [Value.ownBlock] at hk; omega)⟩
def sCl.f (k : Nat) (a0 : List ByteArray) : Option (List ByteArray) := if a0.length ≤ 1000000000 then some a0 else none
theorem sCl.ok (k : Nat) : CtOK Go.Proofs.Tryd.prog 57 (sCl.ct (sCl.f k)) := by
 intro tvs blks res hF w S ρ H vals hm hv
 simp only [sCl.ct] at hF
 split at hF
 ·rename_i a0
  simp only [sCl.f] at hF
  split at hF
  ·rename_i hsz
   simp only [os, Option.some.injEq] at hF
   subst hF
   obtain ⟨v0, m0, rfl, h0, hv⟩ := All2.cons_left hv
   cases All2.nil_left hv
   left
   refine ⟨Go.Proofs.enters_of Go.Proofs.Tryd.func57 (by kernel_rfl) rfl _ _, ?_⟩
   obtain ⟨base, len, cap, hb, hlen, hcap, hspot, hnil, hx⟩ := h0
   obtain rfl : v0 = .slice base len cap := by simpa using hb
   subst hlen
   have key : Calls Go.Proofs.Tryd.prog 57 #[.slice base a0.length cap] w fun e w' => ∃ v', e = .returned v' ∧ w'.ownsRow w.heap.size 9 1 v' a0.length (a0.map Value.string) ∧ Below w.heap.size w w' := by
    cases a0 with
    | nil =>
     cases base with
     | none => exact sCl.none_calls cap w
     | some a => exact sCl.zero_calls a cap w
    | cons x xs =>
     obtain ⟨a, rfl, hS, hr⟩ := hx (by simp)
     have hs : a.spot = none := hspot a rfl (by simp at hcap; omega)
     obtain ⟨b, off, sp⟩ := a
     obtain rfl : sp = none := hs
     refine sCl.row_calls b off cap (x :: xs).length (x :: xs) w rfl (by omega) (fun j hj => ?_)
     obtain ⟨us, ⟨vs, el, fz, h1, h2, h3⟩, hu⟩ := hr j hj
     have hu : us = [.string (x :: xs)[j]] := hu
     subst hu
     simp only [Ty.size, Nat.mul_one] at h2 h3
     simp only [World.cell?, h1]
     have h3 := h3.symm
     rw [List.drop_eq_getElem_cons (by rw [Array.length_toList]; omega)] at h3
     simp only [List.take_succ_cons, List.take_zero, List.cons.injEq, and_true] at h3
     rw [Array.getElem?_eq_getElem (by omega)]
     simp only [List.getD, List.getElem?_eq_getElem hj, Option.getD_some]
     rw [← h3]; simp
   refine key.mono fun e w' ⟨v', h1, hown, hbel⟩ => ?_
   have hold : ∀ b, S b → w'.heap[b]? = w.heap[b]? := fun b hb => hbel.block b (hm.old b hb)
   have fin : ∀ S' : Nat → Prop, (∀ b, S b → S' b) → (∀ b, S' b → S b ∨ (w.heap.size ≤ b ∧ b < w'.heap.size)) → Mem (pkgCx w S ρ H [] (sCl.ct (sCl.f k)).nin) w' S' ρ H (fun n => ([] : List (Option Blk))[n]?) := fun S' q1 q2 => {
    rep := fun n B h => by simp at h
    sep := fun n m B C b h => by simp at h
    apart := fun n B b h => by simp at h
    homes := fun n B b h => by simp at h
    old := fun b hb => by
     rcases q2 b hb with hb | hb
     ·exact Nat.lt_of_lt_of_le (hm.old b hb) hbel.size
     ·exact hb.2
    never := fun n _ => hm.never n (by simp [live])
    s0 := fun b hb => q1 b (hm.s0 b hb)
    smine := fun b hb => by
     rcases q2 b hb with hb | hb
     ·exact hm.smine b hb
     ·exact .inr (.inr (Nat.le_trans hm.size hb.1))
    names := hm.names
    os := hbel.os.trans hm.os, tape := hbel.tape.trans hm.tape, output := hbel.output.trans hm.output
    size := Nat.le_trans hm.size hbel.size
    same := fun b hb h => (hbel.block b (Nat.lt_of_lt_of_le hb hm.size)).trans (hm.same b hb h)
    gl := hm.gl.mono q1 hold }
   rcases hown.2 with ⟨rfl, hn⟩ | ⟨g, cp, cur, rfl, hg, hh, hc1, hc2, hc3, hc4⟩
   ·refine ⟨_, S, ρ, H, h1, fin S (fun _ x => x) (fun b x => .inl x), ?_⟩
    refine ⟨none, 0, 0, rfl, by omega, Nat.le_refl _, (fun a h => by cases h), fun _ => rfl, fun h => ?_⟩
    exact absurd (List.length_eq_zero_iff.1 hn) h
   ·have hlt : g < w'.heap.size := (Array.getElem?_eq_some_iff.1 hh).1
    refine ⟨_, fun b => S b ∨ b = g, ρ, H, h1, fin _ (fun _ x => .inl x) (fun b x => x.imp id fun e => by subst e; exact ⟨hg, hlt⟩), ?_⟩
    refine ⟨some ⟨g, 0, none⟩, a0.length, cp, rfl, rfl, hc1, fun a h _ => by cases h; rfl, (fun h => by cases h), fun _ => ⟨_, rfl, .inr rfl, fun i hi => ⟨[.string a0[i]], ⟨_, _, _, hh, ?_, ?_⟩, rfl⟩⟩⟩
    ·simp only [Ty.size, Nat.mul_one, Nat.zero_add]; omega
    ·simp only [Ty.size, Nat.mul_one, Nat.zero_add]
     have e : cur.toList[i]? = some (Value.string a0[i]) := by
      have h4 : (cur.toList.take (a0.length * 1))[i]? = (a0.map Value.string)[i]? := by rw [hc4]
      rw [List.getElem?_take, if_pos (by omega)] at h4
      rw [h4]; simp [List.getElem?_eq_getElem hi]
     rw [List.drop_eq_getElem_cons (by have := (List.getElem?_eq_some_iff.1 e).1; exact this)]
     have := (List.getElem?_eq_some_iff.1 e).2
     simp [this]
  ·simp at hF
 ·simp at hF
end
end Go.Proofs.YtimadphjdkjgaaaDoor.Aev
