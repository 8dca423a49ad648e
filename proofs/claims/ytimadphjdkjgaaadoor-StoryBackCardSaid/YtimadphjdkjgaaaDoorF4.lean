import Derived.Test.YtimadphjdkjgaaaDoorTys
import Derived.Test.YtimadphjdkjgaaaDoorProg
import Derived.Laws.Externs
import Derived.Lib.Bytealg
import Derived.Test.YtimadphjdkjgaaaDoorF2
import Derived.Test.YtimadphjdkjgaaaDoorF3
/- By a program of this session (AEV): functions of the program as plain functions, and that the machine does what they say. -/
namespace Go.Proofs.YtimadphjdkjgaaaDoor.Aev
set_option linter.unusedVariables false
set_option linter.unusedSimpArgs false
set_option maxRecDepth 100000
set_option maxHeartbeats 4000000
open Go Go.Proofs.Tryd
namespace sr_rest
abbrev R : Type := (List ByteArray) × Bool
def e (r : R) : Res := ⟨.v (.one (.d (.sl .str) r.1)), [some (.box [(.raw (.slice none 0 0)), (.d .bool r.2)])]⟩
abbrev T (δ : Type) : Type := (List ByteArray) → Bool → Option δ
abbrev A {δ : Type} (g : T δ) : Arm δ := ⟨[.k (.ptr 0 0)], [.box [.g T_story_reader]], fun x y => g y.1.1.1 y.1.1.2.1⟩
abbrev G : Type := T R
def ct (g : G) : Ct := mkCt 1 [] [A g] e
section
variable {β : Type} 
noncomputable abbrev env : FEnv := mkEnv prog f43 [] 1 [] []
def c (ret : R → Option β) (a0 : List ByteArray) (a1 : Bool) : Option β := (ret (a0, a1))
theorem ev : EvA (env) [] [0] e (A (c some)) := fun x y => Eq.trans (b := (A (c fun r => some (e r))).G x y) (by kernel_rfl) (by simp only [A, c, bo, so, oa, os, on, ofs])
end
def f (k : Nat) (a0 : List ByteArray) (a1 : Bool) : Option R := c  some a0 a1
noncomputable abbrev E (k : Nat) : FEnv := env  
theorem hE (k : Nat) : EnvOK (E k).toEnv := ctsOK L0
theorem ok (k : Nat) : CtOK prog 43 (ct (f k)) := fn_ok func43 rfl (by decide) (hE k) L0 (Lc ev L0)
end sr_rest
namespace sIx
def e (r : Int) : Res := ⟨.v (.one (.d (.int .i64) r)), []⟩
abbrev T (δ : Type) : Type := (List ByteArray) → ByteArray → Option δ
abbrev A {δ : Type} (g : T δ) : Arm δ := ⟨[.d (.sl .str), .d .str], [], fun x y => g x.1 x.2.1⟩
abbrev G : Type := T Int
def ct (g : G) : Ct := mkCt 0 [] [A g] e
abbrev S0 (δ : Type) : Type := (List ByteArray) → ByteArray → Int → Int → Option δ
abbrev A_0 {δ : Type} (s : S0 δ) : Arm δ := ⟨[.d (.sl .str), .d .str, .d (.int .i64), .d (.int .i64)], [], fun x y => s x.1 x.2.1 x.2.2.1 x.2.2.2.1⟩
def sg0 (s : S0 Int) : Seg := mkSg [4, 1, 0, 1] [] [0, 1, 7, 8] [A_0 s] e
section
variable {β : Type} (s0 : S0 Int)
noncomputable abbrev env : FEnv := mkEnv prog f44 [] 0 [] [sg0 s0]
def c (ret : Int → Option β) (a0 : List ByteArray) (a1 : ByteArray) : Option β := ((s0 a0 a1 (a0.length : Int) (0 : Int)).bind ret)
def s0c (ret : Int → Option β) (x0 : List ByteArray) (x1 : ByteArray) (x2 x3 : Int) : Option β := (bif (decide (x3 < x2)) then (bif ((decide ((0 : Int) ≤ x3)) && (decide (x3 < (x0.length : Int)))) then (bif (x1.toList == (ByteArray.toList (elem Ty.str x0 x3))) then (ret (x3)) else ((s0 x0 x1 x2 (IntKind.wrap .i64 (x3 + (1 : Int)))).bind ret)) else none) else (ret ((-1 : Int))))
variable {s0}
theorem ev : EvA (env s0) [] [0, 1] e (A (c s0 some)) := fun x y => Eq.trans (b := (A (c s0 fun r => some (e r))).G x y) (by kernel_rfl) (by simp only [A, c, bo, so, oa, os, on, ofs])
theorem s0_ev : EvA (env s0) [4, 1, 0, 1] [0, 1, 7, 8] e (A_0 (s0c s0 some)) := fun x y => Eq.trans (b := (A_0 (s0c s0 fun r => some (e r))).G x y) (by kernel_rfl) (by simp only [A_0, s0c, bo, so, oa, os, on, ofs])
end
def s0 : Nat → S0 Int
 | 0, _, _, _, _ => none
 | k + 1, x0, x1, x2, x3 => s0c (s0 k) some x0 x1 x2 x3
def f (k : Nat) (a0 : List ByteArray) (a1 : ByteArray) : Option Int := c (s0 k) some a0 a1
noncomputable abbrev E (k : Nat) : FEnv := env  (s0 k)
theorem hE (k : Nat) : EnvOK (E k).toEnv := ctsOK L0
theorem sk : ∀ k, ∀ s ∈ [sg0 (s0 k)], SegB prog f44 0 s
 | 0 => (Lc (sn (Lc (fun _ _ => rfl) L0)) L0)
 | k + 1 => (Lc (sg_ok (hE k) (sk k) (Lc s0_ev L0)) L0)
theorem ok (k : Nat) : CtOK prog 44 (ct (f k)) := fn_ok func44 rfl (by decide) (hE k) (sk k) (Lc ev L0)
end sIx
namespace words_hex
def e (r : Int) : Res := ⟨.v (.one (.d (.int .u8) r)), []⟩
abbrev T (δ : Type) : Type := ByteArray → Option δ
abbrev A {δ : Type} (g : T δ) : Arm δ := ⟨[.d .str], [], fun x y => g x.1⟩
abbrev G : Type := T Int
def ct (g : G) : Ct := mkCt 0 [] [A g] e
abbrev S0 (δ : Type) : Type := Int → (List Int) → Int → Int → Option δ
abbrev A_0 {δ : Type} (s : S0 δ) : Arm δ := ⟨[.d (.int .i64), .d (.sl (.int .u8)), .d (.int .i64), .d (.int .i64)], [], fun x y => s x.1 x.2.1 x.2.2.1 x.2.2.2.1⟩
abbrev S1 (δ : Type) : Type := Int → Int → (List Int) → Int → Int → Int → Option δ
abbrev A_1 {δ : Type} (s : S1 δ) : Arm δ := ⟨[.d (.int .i64), .d (.int .u8), .d (.sl (.int .u8)), .d (.int .i64), .d (.int .i64), .d (.int .i64)], [], fun x y => s x.1 x.2.1 x.2.2.1 x.2.2.2.1 x.2.2.2.2.1 x.2.2.2.2.2.1⟩
abbrev S2 (δ : Type) : Type := Int → Int → (List Int) → Int → Int → Int → Option δ
abbrev A_2 {δ : Type} (s : S2 δ) : Arm δ := ⟨[.d (.int .i64), .d (.int .u8), .d (.sl (.int .u8)), .d (.int .i64), .d (.int .i64), .d (.int .i64)], [], fun x y => s x.1 x.2.1 x.2.2.1 x.2.2.2.1 x.2.2.2.2.1 x.2.2.2.2.2.1⟩
def sg0 (s : S0 Int) : Seg := mkSg [4, 1, 0, 1, 1] [] [3, 8, 9, 10] [A_0 s] e
def sg1 (s : S1 Int) : Seg := mkSg [4, 1, 1, 1, 4, 0, 1, 1, 5, 4, 1, 0, 1, 1] [] [3, 5, 8, 9, 10, 16] [A_1 s] e
def sg2 (s : S2 Int) : Seg := mkSg [1, 1, 1, 5, 4, 1, 1, 1, 4, 0, 1, 1, 5, 4, 1, 0, 1, 1] [] [3, 5, 8, 9, 10, 16] [A_2 s] e
section
variable {β : Type} (s0 : S0 Int) (s1 : S1 Int) (s2 : S2 Int)
noncomputable abbrev env : FEnv := mkEnv prog f76 [] 0 [] [sg0 s0, sg1 s1, sg2 s2]
def c (ret : Int → Option β) (a0 : ByteArray) : Option β := ((s0 (0 : Int) (List.map (fun b => ((UInt8.toNat b) : Int)) (Array.toList (ByteArray.data a0))) ((List.length (List.map (fun b => ((UInt8.toNat b) : Int)) (Array.toList (ByteArray.data a0)))) : Int) (0 : Int)).bind ret)
def s0c (ret : Int → Option β) (x0 : Int) (x1 : List Int) (x2 x3 : Int) : Option β := (bif (decide (x3 < x2)) then (bif ((decide ((0 : Int) ≤ x3)) && (decide (x3 < (x1.length : Int)))) then ((s1 (IntKind.wrap .i64 (x0 * (16 : Int))) (elem (Ty.int IntKind.u8) x1 x3) x1 x2 x3 (0 : Int)).bind ret) else none) else (ret ((IntKind.wrap .u8 x0))))
def s1c (ret : Int → Option β) (x0 x1 : Int) (x2 : List Int) (x3 x4 x5 : Int) : Option β := (bif (decide (x5 < (16 : Int))) then (bif ((decide ((0 : Int) ≤ x5)) && (decide (x5 < (16 : Int)))) then (bif ((bt (ByteArray.mk (List.toArray [48, 49, 50, 51, 52, 53, 54, 55, 56, 57, 97, 98, 99, 100, 101, 102])) x5) == x1) then ((s2 (IntKind.wrap .i64 ((BitVec.toNat ((BitVec.ofInt (64 : Nat) x0) ||| (BitVec.ofInt (64 : Nat) x5))) : Int)) x1 x2 x3 x4 x5).bind ret) else ((s2 x0 x1 x2 x3 x4 x5).bind ret)) else none) else ((s0 x0 x2 x3 (IntKind.wrap .i64 (x4 + (1 : Int)))).bind ret))
def s2c (ret : Int → Option β) (x0 x1 : Int) (x2 : List Int) (x3 x4 x5 : Int) : Option β := ((s1 x0 x1 x2 x3 x4 (IntKind.wrap .i64 (x5 + (1 : Int)))).bind ret)
variable {s0} {s1} {s2}
theorem ev : EvA (env s0 s1 s2) [] [0] e (A (c s0 some)) := fun x y => Eq.trans (b := (A (c s0 fun r => some (e r))).G x y) (by kernel_rfl) (by simp only [A, c, bo, so, oa, os, on, ofs])
theorem s0_ev : EvA (env s0 s1 s2) [4, 1, 0, 1, 1] [3, 8, 9, 10] e (A_0 (s0c s1 some)) := fun x y => Eq.trans (b := (A_0 (s0c s1 fun r => some (e r))).G x y) (by kernel_rfl) (by simp only [A_0, s0c, bo, so, oa, os, on, ofs])
theorem s1_ev : EvA (env s0 s1 s2) [4, 1, 1, 1, 4, 0, 1, 1, 5, 4, 1, 0, 1, 1] [3, 5, 8, 9, 10, 16] e (A_1 (s1c s0 s2 some)) := fun x y => Eq.trans (b := (A_1 (s1c s0 s2 fun r => some (e r))).G x y) (by kernel_rfl) (by simp only [A_1, s1c, bo, so, oa, os, on, ofs])
theorem s2_ev : EvA (env s0 s1 s2) [1, 1, 1, 5, 4, 1, 1, 1, 4, 0, 1, 1, 5, 4, 1, 0, 1, 1] [3, 5, 8, 9, 10, 16] e (A_2 (s2c s1 some)) := fun x y => Eq.trans (b := (A_2 (s2c s1 fun r => some (e r))).G x y) (by kernel_rfl) (by simp only [A_2, s2c, bo, so, oa, os, on, ofs])
end
mutual
def s0 : Nat → S0 Int
 | 0, _, _, _, _ => none
 | k + 1, x0, x1, x2, x3 => s0c (s1 k) some x0 x1 x2 x3
def s1 : Nat → S1 Int
 | 0, _, _, _, _, _, _ => none
 | k + 1, x0, x1, x2, x3, x4, x5 => s1c (s0 k) (s2 k) some x0 x1 x2 x3 x4 x5
def s2 : Nat → S2 Int
 | 0, _, _, _, _, _, _ => none
 | k + 1, x0, x1, x2, x3, x4, x5 => s2c (s1 k) some x0 x1 x2 x3 x4 x5
end
def f (k : Nat) (a0 : ByteArray) : Option Int := c (s0 k) some a0
noncomputable abbrev E (k : Nat) : FEnv := env  (s0 k) (s1 k) (s2 k)
theorem hE (k : Nat) : EnvOK (E k).toEnv := ctsOK L0
theorem sk : ∀ k, ∀ s ∈ [sg0 (s0 k), sg1 (s1 k), sg2 (s2 k)], SegB prog f76 0 s
 | 0 => (Lc (sn (Lc (fun _ _ => rfl) L0)) (Lc (sn (Lc (fun _ _ => rfl) L0)) (Lc (sn (Lc (fun _ _ => rfl) L0)) L0)))
 | k + 1 => (Lc (sg_ok (hE k) (sk k) (Lc s0_ev L0)) (Lc (sg_ok (hE k) (sk k) (Lc s1_ev L0)) (Lc (sg_ok (hE k) (sk k) (Lc s2_ev L0)) L0)))
theorem ok (k : Nat) : CtOK prog 76 (ct (f k)) := fn_ok func76 rfl (by decide) (hE k) (sk k) (Lc ev L0)
end words_hex
namespace stringslite_HasPrefix
def e (r : Bool) : Res := ⟨.v (.one (.d .bool r)), []⟩
abbrev T (δ : Type) : Type := ByteArray → ByteArray → Option δ
abbrev A {δ : Type} (g : T δ) : Arm δ := ⟨[.d .str, .d .str], [], fun x y => g x.1 x.2.1⟩
abbrev G : Type := T Bool
def ct (g : G) : Ct := mkCt 0 [] [A g] e
section
variable {β : Type} 
noncomputable abbrev env : FEnv := mkEnv prog f83 [] 0 [] []
def c (ret : Bool → Option β) (a0 a1 : ByteArray) : Option β := (bif (decide ((a0.size : Int) ≥ (a1.size : Int))) then (bif (true && (decide ((a1.size : Int) ≤ (a0.size : Int)))) then (ret (((ByteArray.toList (ByteArray.extract a0 (0 : Nat) (Int.toNat (a1.size : Int)))) == a1.toList))) else none) else (ret (false)))
theorem ev : EvA (env) [] [0, 1] e (A (c some)) := fun x y => Eq.trans (b := (A (c fun r => some (e r))).G x y) (by kernel_rfl) (by simp only [A, c, bo, so, oa, os, on, ofs])
end
def f (k : Nat) (a0 a1 : ByteArray) : Option Bool := c  some a0 a1
noncomputable abbrev E (k : Nat) : FEnv := env  
theorem hE (k : Nat) : EnvOK (E k).toEnv := ctsOK L0
theorem ok (k : Nat) : CtOK prog 83 (ct (f k)) := fn_ok func83 rfl (by decide) (hE k) L0 (Lc ev L0)
end stringslite_HasPrefix
namespace strings_HasPrefix
def e (r : Bool) : Res := ⟨.v (.one (.d .bool r)), []⟩
abbrev T (δ : Type) : Type := ByteArray → ByteArray → Option δ
abbrev A {δ : Type} (g : T δ) : Arm δ := ⟨[.d .str, .d .str], [], fun x y => g x.1 x.2.1⟩
abbrev G : Type := T Bool
def ct (g : G) : Ct := mkCt 0 [] [A g] e
section
variable {β : Type} (g83 : stringslite_HasPrefix.G)
noncomputable abbrev env : FEnv := mkEnv prog f77 [(83, stringslite_HasPrefix.ct g83)] 0 [] []
def c (ret : Bool → Option β) (a0 a1 : ByteArray) : Option β := ((g83 a0 a1).bind fun r0 => (ret (r0)))
variable {g83}
theorem ev : EvA (env g83) [] [0, 1] e (A (c g83 some)) := fun x y => Eq.trans (b := (A (c g83 fun r => some (e r))).G x y) (by kernel_rfl) (by simp only [A, c, bo, so, oa, os, on, ofs])
end
def f (k : Nat) (a0 a1 : ByteArray) : Option Bool := c (stringslite_HasPrefix.f k) some a0 a1
noncomputable abbrev E (k : Nat) : FEnv := env (stringslite_HasPrefix.f k) 
theorem hE (k : Nat) : EnvOK (E k).toEnv := ctsOK (Lc (stringslite_HasPrefix.ok k) L0)
theorem ok (k : Nat) : CtOK prog 77 (ct (f k)) := fn_ok func77 rfl (by decide) (hE k) L0 (Lc ev L0)
end strings_HasPrefix
namespace words_Unquote
abbrev R : Type := ByteArray × Int
def e (r : R) : Res := ⟨.tup [(.one (.d .str r.1)), (.one (.d (.int .i64) r.2))], []⟩
abbrev T (δ : Type) : Type := ByteArray → Option δ
abbrev A {δ : Type} (g : T δ) : Arm δ := ⟨[.d .str], [], fun x y => g x.1⟩
abbrev G : Type := T R
def ct (g : G) : Ct := mkCt 0 [] [A g] e
abbrev S0 (δ : Type) : Type := ByteArray → ByteArray → Int → (List Int) → Option δ
abbrev A_0 {δ : Type} (s : S0 δ) : Arm δ := ⟨[.d .str, .d .str, .k (.own 0), .d (.int .i64)], [.own (.int .u8) false], fun x y => s x.1 x.2.1 x.2.2.2.1 y.1⟩
abbrev S1 (δ : Type) : Type := ByteArray → ByteArray → Int → Int → Bool → (List Int) → Option δ
abbrev A_1 {δ : Type} (s : S1 δ) : Arm δ := ⟨[.d .str, .d .str, .k (.own 0), .d (.int .i64), .d (.int .u8), .d .bool], [.own (.int .u8) false], fun x y => s x.1 x.2.1 x.2.2.2.1 x.2.2.2.2.1 x.2.2.2.2.2.1 y.1⟩
abbrev S2 (δ : Type) : Type := ByteArray → ByteArray → Int → Int → Bool → (List Int) → Option δ
abbrev A_2 {δ : Type} (s : S2 δ) : Arm δ := ⟨[.d .str, .d .str, .k (.own 0), .d (.int .i64), .d (.int .u8), .d .bool], [.own (.int .u8) false], fun x y => s x.1 x.2.1 x.2.2.2.1 x.2.2.2.2.1 x.2.2.2.2.2.1 y.1⟩
abbrev S3 (δ : Type) : Type := ByteArray → ByteArray → Int → Int → (List Int) → Option δ
abbrev A_3 {δ : Type} (s : S3 δ) : Arm δ := ⟨[.d .str, .d .str, .k (.own 0), .d (.int .i64), .d (.int .u8)], [.own (.int .u8) false], fun x y => s x.1 x.2.1 x.2.2.2.1 x.2.2.2.2.1 y.1⟩
abbrev S4 (δ : Type) : Type := ByteArray → ByteArray → Int → (List Int) → Option δ
abbrev A_4 {δ : Type} (s : S4 δ) : Arm δ := ⟨[.d .str, .d .str, .k (.own 0), .d (.int .i64)], [.own (.int .u8) false], fun x y => s x.1 x.2.1 x.2.2.2.1 y.1⟩
def sg0 (s : S0 R) : Seg := mkSg [4, 1, 0, 1, 1, 1, 1] [.own 5 (.int .u8)] [0, 4, 5, 6] [A_0 s] e
def sg1 (s : S1 R) : Seg := mkSg [1, 0, 1, 4, 0, 1, 5, 4, 1, 0, 1, 1, 1, 1] [] [0, 4, 5, 6, 7, 34] [A_1 s] e
def sg2 (s : S2 R) : Seg := mkSg [1, 1, 1, 2, 1, 0, 1, 4, 0, 1, 5, 4, 1, 0, 1, 1, 1, 1] [] [0, 4, 5, 6, 7, 48] [A_2 s] e
def sg3 (s : S3 R) : Seg := mkSg [1, 1, 4, 0, 1, 5, 4, 1, 0, 1, 1, 1, 1] [] [0, 4, 5, 6, 7] [A_3 s] e
def sg4 (s : S4 R) : Seg := mkSg [1, 1, 5, 4, 1, 0, 1, 1, 1, 1] [] [0, 4, 5, 6] [A_4 s] e
section
variable {β : Type} (g63 : words_Quote.G) (g76 : words_hex.G) (s0 : S0 R) (s1 : S1 R) (s2 : S2 R) (s3 : S3 R) (s4 : S4 R)
noncomputable abbrev env : FEnv := mkEnv prog f78 [(63, words_Quote.ct g63), (76, words_hex.ct g76)] 0 [] [sg0 s0, sg1 s1, sg2 s2, sg3 s3, sg4 s4]
def c (ret : R → Option β) (a0 : ByteArray) : Option β := (bif (decide ((a0.size : Int) < (2 : Int))) then (ret ((ByteArray.mk (List.toArray [])), (7 : Int))) else (bif ((true && (decide ((1 : Int) ≤ (IntKind.wrap .i64 ((a0.size : Int) - (1 : Int)))))) && (decide ((IntKind.wrap .i64 ((a0.size : Int) - (1 : Int))) ≤ (a0.size : Int)))) then ((s0 a0 (ByteArray.extract a0 (1 : Nat) (Int.toNat (IntKind.wrap .i64 ((a0.size : Int) - (1 : Int))))) (0 : Int) []).bind ret) else none))
def s0c (ret : R → Option β) (x0 x1 : ByteArray) (x2 : Int) (x3 : List Int) : Option β := (bif (decide (x2 < (x1.size : Int))) then (bif ((decide ((0 : Int) ≤ x2)) && (decide (x2 < (x1.size : Int)))) then (bif ((bt x1 x2) == (92 : Int)) then ((s1 x0 x1 x2 (bt x1 x2) (decide ((IntKind.wrap .i64 (x2 + (1 : Int))) < (x1.size : Int))) x3).bind ret) else ((s1 x0 x1 x2 (bt x1 x2) false x3).bind ret)) else none) else ((g63 (ByteArray.mk (List.toArray (List.map (fun n => (UInt8.ofNat (Int.toNat n))) x3)))).bind fun r0 => (bif (!(r0.toList == x0.toList)) then (ret ((ByteArray.mk (List.toArray [])), (7 : Int))) else (ret ((ByteArray.mk (List.toArray (List.map (fun n => (UInt8.ofNat (Int.toNat n))) x3))), (0 : Int))))))
def s1c (ret : R → Option β) (x0 x1 : ByteArray) (x2 x3 : Int) (x4 : Bool) (x5 : List Int) : Option β := (bif x4 then (bif ((decide ((0 : Int) ≤ (IntKind.wrap .i64 (x2 + (1 : Int))))) && (decide ((IntKind.wrap .i64 (x2 + (1 : Int))) < (x1.size : Int)))) then (bif ((bt x1 (IntKind.wrap .i64 (x2 + (1 : Int)))) == (120 : Int)) then ((s2 x0 x1 (IntKind.wrap .i64 (x2 + (1 : Int))) (bt x1 (IntKind.wrap .i64 (x2 + (1 : Int)))) (decide ((IntKind.wrap .i64 ((IntKind.wrap .i64 (x2 + (1 : Int))) + (2 : Int))) < (x1.size : Int))) x5).bind ret) else ((s2 x0 x1 (IntKind.wrap .i64 (x2 + (1 : Int))) (bt x1 (IntKind.wrap .i64 (x2 + (1 : Int)))) false x5).bind ret)) else none) else ((s3 x0 x1 x2 x3 x5).bind ret))
def s2c (ret : R → Option β) (x0 x1 : ByteArray) (x2 x3 : Int) (x4 : Bool) (x5 : List Int) : Option β := (bif x4 then (bif (((decide ((0 : Int) ≤ (IntKind.wrap .i64 (x2 + (1 : Int))))) && (decide ((IntKind.wrap .i64 (x2 + (1 : Int))) ≤ (IntKind.wrap .i64 (x2 + (3 : Int)))))) && (decide ((IntKind.wrap .i64 (x2 + (3 : Int))) ≤ (x1.size : Int)))) then ((g76 (ByteArray.extract x1 (Int.toNat (IntKind.wrap .i64 (x2 + (1 : Int)))) (Int.toNat (IntKind.wrap .i64 (x2 + (3 : Int)))))).bind fun r0 => ((s3 x0 x1 (IntKind.wrap .i64 (x2 + (2 : Int))) r0 x5).bind ret)) else none) else ((s3 x0 x1 x2 x3 x5).bind ret))
def s3c (ret : R → Option β) (x0 x1 : ByteArray) (x2 x3 : Int) (x4 : List Int) : Option β := (bif (decide (((x4.length + (1 : Nat)) * (1 : Nat)) ≤ (35184372088832 : Nat))) then ((s4 x0 x1 x2 (x4 ++ [x3])).bind ret) else none)
def s4c (ret : R → Option β) (x0 x1 : ByteArray) (x2 : Int) (x3 : List Int) : Option β := ((s0 x0 x1 (IntKind.wrap .i64 (x2 + (1 : Int))) x3).bind ret)
variable {g63} {g76} {s0} {s1} {s2} {s3} {s4}
theorem ev : EvA (env g63 g76 s0 s1 s2 s3 s4) [] [0] e (A (c s0 some)) := fun x y => Eq.trans (b := (A (c s0 fun r => some (e r))).G x y) (by kernel_rfl) (by simp only [A, c, bo, so, oa, os, on, ofs])
theorem s0_ev : EvA (env g63 g76 s0 s1 s2 s3 s4) [4, 1, 0, 1, 1, 1, 1] [0, 4, 5, 6] e (A_0 (s0c g63 s1 some)) := fun x y => Eq.trans (b := (A_0 (s0c g63 s1 fun r => some (e r))).G x y) (by kernel_rfl) (by simp only [A_0, s0c, bo, so, oa, os, on, ofs])
theorem s1_ev : EvA (env g63 g76 s0 s1 s2 s3 s4) [1, 0, 1, 4, 0, 1, 5, 4, 1, 0, 1, 1, 1, 1] [0, 4, 5, 6, 7, 34] e (A_1 (s1c s2 s3 some)) := fun x y => Eq.trans (b := (A_1 (s1c s2 s3 fun r => some (e r))).G x y) (by kernel_rfl) (by simp only [A_1, s1c, bo, so, oa, os, on, ofs])
theorem s2_ev : EvA (env g63 g76 s0 s1 s2 s3 s4) [1, 1, 1, 2, 1, 0, 1, 4, 0, 1, 5, 4, 1, 0, 1, 1, 1, 1] [0, 4, 5, 6, 7, 48] e (A_2 (s2c g76 s3 some)) := fun x y => Eq.trans (b := (A_2 (s2c g76 s3 fun r => some (e r))).G x y) (by kernel_rfl) (by simp only [A_2, s2c, bo, so, oa, os, on, ofs])
theorem s3_ev : EvA (env g63 g76 s0 s1 s2 s3 s4) [1, 1, 4, 0, 1, 5, 4, 1, 0, 1, 1, 1, 1] [0, 4, 5, 6, 7] e (A_3 (s3c s4 some)) := fun x y => Eq.trans (b := (A_3 (s3c s4 fun r => some (e r))).G x y) (by kernel_rfl) (by simp only [A_3, s3c, bo, so, oa, os, on, ofs])
theorem s4_ev : EvA (env g63 g76 s0 s1 s2 s3 s4) [1, 1, 5, 4, 1, 0, 1, 1, 1, 1] [0, 4, 5, 6] e (A_4 (s4c s0 some)) := fun x y => Eq.trans (b := (A_4 (s4c s0 fun r => some (e r))).G x y) (by kernel_rfl) (by simp only [A_4, s4c, bo, so, oa, os, on, ofs])
end
mutual
def s0 : Nat → S0 R
 | 0, _, _, _, _ => none
 | k + 1, x0, x1, x2, x3 => s0c (words_Quote.f k) (s1 k) some x0 x1 x2 x3
def s1 : Nat → S1 R
 | 0, _, _, _, _, _, _ => none
 | k + 1, x0, x1, x2, x3, x4, x5 => s1c (s2 k) (s3 k) some x0 x1 x2 x3 x4 x5
def s2 : Nat → S2 R
 | 0, _, _, _, _, _, _ => none
 | k + 1, x0, x1, x2, x3, x4, x5 => s2c (words_hex.f k) (s3 k) some x0 x1 x2 x3 x4 x5
def s3 : Nat → S3 R
 | 0, _, _, _, _, _ => none
 | k + 1, x0, x1, x2, x3, x4 => s3c (s4 k) some x0 x1 x2 x3 x4
def s4 : Nat → S4 R
 | 0, _, _, _, _ => none
 | k + 1, x0, x1, x2, x3 => s4c (s0 k) some x0 x1 x2 x3
end
def f (k : Nat) (a0 : ByteArray) : Option R := c (s0 k) some a0
noncomputable abbrev E (k : Nat) : FEnv := env (words_Quote.f k) (words_hex.f k) (s0 k) (s1 k) (s2 k) (s3 k) (s4 k)
theorem hE (k : Nat) : EnvOK (E k).toEnv := ctsOK (Lc (words_Quote.ok k) (Lc (words_hex.ok k) L0))
theorem sk : ∀ k, ∀ s ∈ [sg0 (s0 k), sg1 (s1 k), sg2 (s2 k), sg3 (s3 k), sg4 (s4 k)], SegB prog f78 0 s
 | 0 => (Lc (sn (Lc (fun _ _ => rfl) L0)) (Lc (sn (Lc (fun _ _ => rfl) L0)) (Lc (sn (Lc (fun _ _ => rfl) L0)) (Lc (sn (Lc (fun _ _ => rfl) L0)) (Lc (sn (Lc (fun _ _ => rfl) L0)) L0)))))
 | k + 1 => (Lc (sg_ok (hE k) (sk k) (Lc s0_ev L0)) (Lc (sg_ok (hE k) (sk k) (Lc s1_ev L0)) (Lc (sg_ok (hE k) (sk k) (Lc s2_ev L0)) (Lc (sg_ok (hE k) (sk k) (Lc s3_ev L0)) (Lc (sg_ok (hE k) (sk k) (Lc s4_ev L0)) L0)))))
theorem ok (k : Nat) : CtOK prog 78 (ct (f k)) := fn_ok func78 rfl (by decide) (hE k) (sk k) (Lc ev L0)
end words_Unquote
namespace words_guess
abbrev R : Type := Int × Int × Int × ByteArray
def e (r : R) : Res := ⟨.v (.agg [(.d (.int .i64) r.1), (.d (.int .i64) r.2.1), (.d (.int .u64) r.2.2.1), (.d .str r.2.2.2)]), []⟩
abbrev T (δ : Type) : Type := ByteArray → Option δ
abbrev A {δ : Type} (g : T δ) : Arm δ := ⟨[.d .str], [], fun x y => g x.1⟩
abbrev G : Type := T R
def ct (g : G) : Ct := mkCt 0 [] [A g] e
abbrev S0 (δ : Type) : Type := ByteArray → Bool → Int → Int → Int → ByteArray → Int → Int → Int → ByteArray → Option δ
abbrev A_0 {δ : Type} (s : S0 δ) : Arm δ := ⟨[.d .str, .k (.ptr 0 0), .k (.ptr 1 0), .d .bool], [.box [.g T_api_Value], .box [.g T_api_Value]], fun x y => s x.1 x.2.2.2.1 y.1.1.1 y.1.1.2.1 y.1.1.2.2.1 y.1.1.2.2.2.1 y.2.1.1.1 y.2.1.1.2.1 y.2.1.1.2.2.1 y.2.1.1.2.2.2.1⟩
abbrev S1 (δ : Type) : Type := ByteArray → Bool → Int → Int → Int → ByteArray → Int → Int → Int → ByteArray → Option δ
abbrev A_1 {δ : Type} (s : S1 δ) : Arm δ := ⟨[.d .str, .k (.ptr 0 0), .k (.ptr 1 0), .d .bool], [.box [.g T_api_Value], .box [.g T_api_Value]], fun x y => s x.1 x.2.2.2.1 y.1.1.1 y.1.1.2.1 y.1.1.2.2.1 y.1.1.2.2.2.1 y.2.1.1.1 y.2.1.1.2.1 y.2.1.1.2.2.1 y.2.1.1.2.2.2.1⟩
abbrev S2 (δ : Type) : Type := ByteArray → Int → Int → Int → Int → ByteArray → Int → Int → Int → ByteArray → Option δ
abbrev A_2 {δ : Type} (s : S2 δ) : Arm δ := ⟨[.d .str, .k (.ptr 0 0), .k (.ptr 1 0), .d (.int .i64)], [.box [.g T_api_Value], .box [.g T_api_Value]], fun x y => s x.1 x.2.2.2.1 y.1.1.1 y.1.1.2.1 y.1.1.2.2.1 y.1.1.2.2.2.1 y.2.1.1.1 y.2.1.1.2.1 y.2.1.1.2.2.1 y.2.1.1.2.2.2.1⟩
def sg0 (s : S0 R) : Seg := mkSg [1, 3, 1, 4, 0, 1, 1] [] [0, 2, 3, 15] [A_0 s] e
def sg1 (s : S1 R) : Seg := mkSg [1, 3, 1, 3, 1, 4, 0, 1, 1] [] [0, 2, 3, 26] [A_1 s] e
def sg2 (s : S2 R) : Seg := mkSg [4, 1, 1, 2, 1, 3, 1, 3, 1, 4, 0, 1, 1] [] [0, 2, 3, 4] [A_2 s] e
section
variable {β : Type} (g42 : convert_Number.G) (g76 : words_hex.G) (g77 : strings_HasPrefix.G) (g78 : words_Unquote.G) (s0 : S0 R) (s1 : S1 R) (s2 : S2 R)
noncomputable abbrev env : FEnv := mkEnv prog f67 [(42, convert_Number.ct g42), (76, words_hex.ct g76), (77, strings_HasPrefix.ct g77), (78, words_Unquote.ct g78)] 0 [] [sg0 s0, sg1 s1, sg2 s2]
def c (ret : R → Option β) (a0 : ByteArray) : Option β := (bif (a0.toList == (ByteArray.toList (ByteArray.mk (List.toArray [110, 117, 108, 108])))) then (ret ((0 : Int), (0 : Int), (0 : Int), (ByteArray.mk (List.toArray [])))) else (bif (a0.toList == (ByteArray.toList (ByteArray.mk (List.toArray [102, 97, 108, 115, 101])))) then ((s0 a0 true (0 : Int) (0 : Int) (0 : Int) (ByteArray.mk (List.toArray [])) (0 : Int) (0 : Int) (0 : Int) (ByteArray.mk (List.toArray []))).bind ret) else ((s0 a0 (a0.toList == (ByteArray.toList (ByteArray.mk (List.toArray [116, 114, 117, 101])))) (0 : Int) (0 : Int) (0 : Int) (ByteArray.mk (List.toArray [])) (0 : Int) (0 : Int) (0 : Int) (ByteArray.mk (List.toArray []))).bind ret)))
def s0c (ret : R → Option β) (x0 : ByteArray) (x1 : Bool) (x2 x3 x4 : Int) (x5 : ByteArray) (x6 x7 x8 : Int) (x9 : ByteArray) : Option β := (bif x1 then (bif (x0.toList == (ByteArray.toList (ByteArray.mk (List.toArray [116, 114, 117, 101])))) then (ret ((1 : Int), (1 : Int), x8, x9)) else (ret ((1 : Int), x7, x8, x9))) else (bif ((x0.size : Int) == (17 : Int)) then (bif (true && (decide ((0 : Int) < (x0.size : Int)))) then ((s1 x0 ((bt x0 (0 : Int)) == (114 : Int)) x2 x3 x4 x5 x6 x7 x8 x9).bind ret) else none) else ((s1 x0 false x2 x3 x4 x5 x6 x7 x8 x9).bind ret)))
def s1c (ret : R → Option β) (x0 : ByteArray) (x1 : Bool) (x2 x3 x4 : Int) (x5 : ByteArray) (x6 x7 x8 : Int) (x9 : ByteArray) : Option β := (bif x1 then ((s2 x0 (1 : Int) x2 x3 x4 x5 (3 : Int) x7 x8 x9).bind ret) else ((g77 x0 (ByteArray.mk (List.toArray [98]))).bind fun r0 => (bif r0 then (bif ((true && (decide ((1 : Int) ≤ (x0.size : Int)))) && (decide ((x0.size : Int) ≤ (x0.size : Int)))) then ((g78 (ByteArray.extract x0 (1 : Nat) (Int.toNat (x0.size : Int)))).bind fun r1 => (ret ((4 : Int), x7, x8, r1.1))) else none) else ((g77 x0 (ByteArray.mk (List.toArray [34]))).bind fun r2 => (bif r2 then ((g78 x0).bind fun r3 => (ret ((5 : Int), x7, x8, r3.1))) else ((g42 x0).bind fun r4 => (ret ((2 : Int), r4.1, x8, x9))))))))
def s2c (ret : R → Option β) (x0 : ByteArray) (x1 x2 : Int) (x3 x4 : Int) (x5 : ByteArray) (x6 x7 x8 : Int) (x9 : ByteArray) : Option β := (bif (decide (x1 < (x0.size : Int))) then (bif (((decide ((0 : Int) ≤ x1)) && (decide (x1 ≤ (IntKind.wrap .i64 (x1 + (2 : Int)))))) && (decide ((IntKind.wrap .i64 (x1 + (2 : Int))) ≤ (x0.size : Int)))) then ((g76 (ByteArray.extract x0 (Int.toNat x1) (Int.toNat (IntKind.wrap .i64 (x1 + (2 : Int)))))).bind fun r0 => ((s2 x0 (IntKind.wrap .i64 (x1 + (2 : Int))) x2 x3 x4 x5 x6 x7 (IntKind.wrap .u64 ((BitVec.toNat ((BitVec.ofInt (64 : Nat) (IntKind.wrap .u64 (x8 * (256 : Int)))) ||| (BitVec.ofInt (64 : Nat) (IntKind.wrap .u64 r0)))) : Int)) x9).bind ret)) else none) else (ret (x6, x7, x8, x9)))
variable {g42} {g76} {g77} {g78} {s0} {s1} {s2}
theorem ev : EvA (env g42 g76 g77 g78 s0 s1 s2) [] [0] e (A (c s0 some)) := fun x y => Eq.trans (b := (A (c s0 fun r => some (e r))).G x y) (by kernel_rfl) (by simp only [A, c, bo, so, oa, os, on, ofs])
theorem s0_ev : EvA (env g42 g76 g77 g78 s0 s1 s2) [1, 3, 1, 4, 0, 1, 1] [0, 2, 3, 15] e (A_0 (s0c s1 some)) := fun x y => Eq.trans (b := (A_0 (s0c s1 fun r => some (e r))).G x y) (by kernel_rfl) (by simp only [A_0, s0c, bo, so, oa, os, on, ofs])
theorem s1_ev : EvA (env g42 g76 g77 g78 s0 s1 s2) [1, 3, 1, 3, 1, 4, 0, 1, 1] [0, 2, 3, 26] e (A_1 (s1c g42 g77 g78 s2 some)) := fun x y => Eq.trans (b := (A_1 (s1c g42 g77 g78 s2 fun r => some (e r))).G x y) (by kernel_rfl) (by simp only [A_1, s1c, bo, so, oa, os, on, ofs])
theorem s2_ev : EvA (env g42 g76 g77 g78 s0 s1 s2) [4, 1, 1, 2, 1, 3, 1, 3, 1, 4, 0, 1, 1] [0, 2, 3, 4] e (A_2 (s2c g76 s2 some)) := fun x y => Eq.trans (b := (A_2 (s2c g76 s2 fun r => some (e r))).G x y) (by kernel_rfl) (by simp only [A_2, s2c, bo, so, oa, os, on, ofs])
end
mutual
def s0 : Nat → S0 R
 | 0, _, _, _, _, _, _, _, _, _, _ => none
 | k + 1, x0, x1, x2, x3, x4, x5, x6, x7, x8, x9 => s0c (s1 k) some x0 x1 x2 x3 x4 x5 x6 x7 x8 x9
def s1 : Nat → S1 R
 | 0, _, _, _, _, _, _, _, _, _, _ => none
 | k + 1, x0, x1, x2, x3, x4, x5, x6, x7, x8, x9 => s1c (convert_Number.f k) (strings_HasPrefix.f k) (words_Unquote.f k) (s2 k) some x0 x1 x2 x3 x4 x5 x6 x7 x8 x9
def s2 : Nat → S2 R
 | 0, _, _, _, _, _, _, _, _, _, _ => none
 | k + 1, x0, x1, x2, x3, x4, x5, x6, x7, x8, x9 => s2c (words_hex.f k) (s2 k) some x0 x1 x2 x3 x4 x5 x6 x7 x8 x9
end
def f (k : Nat) (a0 : ByteArray) : Option R := c (s0 k) some a0
noncomputable abbrev E (k : Nat) : FEnv := env (convert_Number.f k) (words_hex.f k) (strings_HasPrefix.f k) (words_Unquote.f k) (s0 k) (s1 k) (s2 k)
theorem hE (k : Nat) : EnvOK (E k).toEnv := ctsOK (Lc (convert_Number.ok k) (Lc (words_hex.ok k) (Lc (strings_HasPrefix.ok k) (Lc (words_Unquote.ok k) L0))))
theorem sk : ∀ k, ∀ s ∈ [sg0 (s0 k), sg1 (s1 k), sg2 (s2 k)], SegB prog f67 0 s
 | 0 => (Lc (sn (Lc (fun _ _ => rfl) L0)) (Lc (sn (Lc (fun _ _ => rfl) L0)) (Lc (sn (Lc (fun _ _ => rfl) L0)) L0)))
 | k + 1 => (Lc (sg_ok (hE k) (sk k) (Lc s0_ev L0)) (Lc (sg_ok (hE k) (sk k) (Lc s1_ev L0)) (Lc (sg_ok (hE k) (sk k) (Lc s2_ev L0)) L0)))
theorem ok (k : Nat) : CtOK prog 67 (ct (f k)) := fn_ok func67 rfl (by decide) (hE k) (sk k) (Lc ev L0)
end words_guess
namespace words_Value
abbrev R : Type := Int × Int × Int × ByteArray × Int
def e (r : R) : Res := ⟨.tup [(.agg [(.d (.int .i64) r.1), (.d (.int .i64) r.2.1), (.d (.int .u64) r.2.2.1), (.d .str r.2.2.2.1)]), (.one (.d (.int .i64) r.2.2.2.2))], []⟩
abbrev T (δ : Type) : Type := ByteArray → Option δ
abbrev A {δ : Type} (g : T δ) : Arm δ := ⟨[.d .str], [], fun x y => g x.1⟩
abbrev G : Type := T R
def ct (g : G) : Ct := mkCt 0 [] [A g] e
section
variable {β : Type} (g50 : words_Show.G) (g67 : words_guess.G)
noncomputable abbrev env : FEnv := mkEnv prog f54 [(50, words_Show.ct g50), (67, words_guess.ct g67)] 0 [] []
def c (ret : R → Option β) (a0 : ByteArray) : Option β := ((g67 a0).bind fun r0 => ((g50 r0.1 r0.2.1 r0.2.2.1 r0.2.2.2).bind fun r1 => (bif (r1.2 != (0 : Int)) then (ret ((0 : Int), (0 : Int), (0 : Int), (ByteArray.mk (List.toArray [])), (7 : Int))) else (bif (!(r1.1.toList == a0.toList)) then (ret ((0 : Int), (0 : Int), (0 : Int), (ByteArray.mk (List.toArray [])), (7 : Int))) else (ret (r0.1, r0.2.1, r0.2.2.1, r0.2.2.2, (0 : Int)))))))
variable {g50} {g67}
theorem ev : EvA (env g50 g67) [] [0] e (A (c g50 g67 some)) := fun x y => Eq.trans (b := (A (c g50 g67 fun r => some (e r))).G x y) (by kernel_rfl) (by simp only [A, c, bo, so, oa, os, on, ofs])
end
def f (k : Nat) (a0 : ByteArray) : Option R := c (words_Show.f k) (words_guess.f k) some a0
noncomputable abbrev E (k : Nat) : FEnv := env (words_Show.f k) (words_guess.f k) 
theorem hE (k : Nat) : EnvOK (E k).toEnv := ctsOK (Lc (words_Show.ok k) (Lc (words_guess.ok k) L0))
theorem ok (k : Nat) : CtOK prog 54 (ct (f k)) := fn_ok func54 rfl (by decide) (hE k) L0 (Lc ev L0)
end words_Value
end Go.Proofs.YtimadphjdkjgaaaDoor.Aev
