/- By a program of this session (AEV): functions of the program as plain functions, and that the machine does what they say. -/
import Derived.Test.YthaannpgcbpjkaaTys
import Derived.Test.YthaannpgcbpjkaaProg
import Derived.Laws.Externs
import Derived.Lib.Bytealg
import Derived.Test.YthaannpgcbpjkaaF3
namespace Go.Proofs.Ythaannpgcbpjkaa.Aev
set_option linter.unusedVariables false
set_option linter.unusedSimpArgs false
set_option maxRecDepth 100000
set_option maxHeartbeats 4000000
open Go Go.Proofs.Try
namespace transomref08_Check
def e (r : Int) : Res := ⟨.v (.one (.d (.int .i64) r)), []⟩
abbrev T (δ : Type) : Type := ByteArray → Option δ
abbrev A {δ : Type} (g : T δ) : Arm δ := ⟨[.d .str], [], fun x y => g x.1⟩
abbrev G : Type := T Int
def ct (g : G) : Ct := mkCt 0 [] [A g] e
abbrev S0 (δ : Type) : Type := ByteArray → Bool → Option δ
abbrev A_0 {δ : Type} (s : S0 δ) : Arm δ := ⟨[.d .str, .d .bool], [], fun x y => s x.1 x.2.1⟩
abbrev S1 (δ : Type) : Type := ByteArray → Option δ
abbrev A_1 {δ : Type} (s : S1 δ) : Arm δ := ⟨[.d .str], [], fun x y => s x.1⟩
abbrev S2 (δ : Type) : Type := ByteArray → Int → Option δ
abbrev A_2 {δ : Type} (s : S2 δ) : Arm δ := ⟨[.d .str, .d (.int .i64)], [], fun x y => s x.1 x.2.1⟩
abbrev S3 (δ : Type) : Type := ByteArray → Int → Bool → Option δ
abbrev A_3 {δ : Type} (s : S3 δ) : Arm δ := ⟨[.d .str, .d (.int .i64), .d .bool], [], fun x y => s x.1 x.2.1 x.2.2.1⟩
abbrev S4 (δ : Type) : Type := ByteArray → Int → Option δ
abbrev A_4 {δ : Type} (s : S4 δ) : Arm δ := ⟨[.d .str, .d (.int .i64)], [], fun x y => s x.1 x.2.1⟩
def sg0 (s : S0 Int) : Seg := mkSg [1, 0, 1] [] [0, 17] [A_0 s] e
def sg1 (s : S1 Int) : Seg := mkSg [1, 1] [] [0] [A_1 s] e
def sg2 (s : S2 Int) : Seg := mkSg [4, 1, 0, 1, 1] [] [0, 3] [A_2 s] e
def sg3 (s : S3 Int) : Seg := mkSg [1, 4, 0, 1, 5, 4, 1, 0, 1, 1] [] [0, 3, 46] [A_3 s] e
def sg4 (s : S4 Int) : Seg := mkSg [1, 1, 5, 4, 1, 0, 1, 1] [] [0, 3] [A_4 s] e
section
variable {β : Type} (g80 : transomref08_letter.G) (s0 : S0 Int) (s1 : S1 Int) (s2 : S2 Int) (s3 : S3 Int) (s4 : S4 Int)
noncomputable abbrev env : FEnv := mkEnv prog f73 [(80, transomref08_letter.ct g80)] 0 [] [sg0 s0, sg1 s1, sg2 s2, sg3 s3, sg4 s4]
def c (ret : Int → Option β) (a0 : ByteArray) : Option β := (bif (decide ((a0.size : Int) < (1 : Int))) then ((s0 a0 true).bind ret) else (bif (decide ((a0.size : Int) > (16 : Int))) then ((s0 a0 true).bind ret) else (bif (true && (decide ((0 : Int) < (a0.size : Int)))) then ((g80 (bt a0 (0 : Int))).bind fun r0 => ((s0 a0 (!r0)).bind ret)) else none)))
def s0c (ret : Int → Option β) (x0 : ByteArray) (x1 : Bool) : Option β := (bif x1 then (ret ((8 : Int))) else ((s1 x0).bind ret))
def s1c (ret : Int → Option β) (x0 : ByteArray) : Option β := ((s2 x0 (1 : Int)).bind ret)
def s2c (ret : Int → Option β) (x0 : ByteArray) (x1 : Int) : Option β := (bif (decide (x1 < (x0.size : Int))) then (bif ((decide ((0 : Int) ≤ x1)) && (decide (x1 < (x0.size : Int)))) then ((g80 (bt x0 x1)).bind fun r0 => (bif (!r0) then (bif ((decide ((0 : Int) ≤ x1)) && (decide (x1 < (x0.size : Int)))) then (bif ((bt x0 x1) != (95 : Int)) then (bif ((decide ((0 : Int) ≤ x1)) && (decide (x1 < (x0.size : Int)))) then (bif (decide ((bt x0 x1) < (48 : Int))) then ((s3 x0 x1 true).bind ret) else (bif ((decide ((0 : Int) ≤ x1)) && (decide (x1 < (x0.size : Int)))) then ((s3 x0 x1 (decide ((bt x0 x1) > (57 : Int)))).bind ret) else none)) else none) else ((s3 x0 x1 false).bind ret)) else none) else ((s3 x0 x1 false).bind ret))) else none) else (ret ((0 : Int))))
def s3c (ret : Int → Option β) (x0 : ByteArray) (x1 : Int) (x2 : Bool) : Option β := (bif x2 then (ret ((8 : Int))) else ((s4 x0 x1).bind ret))
def s4c (ret : Int → Option β) (x0 : ByteArray) (x1 : Int) : Option β := ((s2 x0 (IntKind.wrap .i64 (x1 + (1 : Int)))).bind ret)
variable {g80} {s0} {s1} {s2} {s3} {s4}
theorem ev : EvA (env g80 s0 s1 s2 s3 s4) [] [0] e (A (c g80 s0 some)) := fun x y => Eq.trans (b := (A (c g80 s0 fun r => some (e r))).G x y) (by kernel_rfl) (by simp only [A, c, bif_bind, sum_bind, oa, os, on, ofs])
theorem s0_ev : EvA (env g80 s0 s1 s2 s3 s4) [1, 0, 1] [0, 17] e (A_0 (s0c s1 some)) := fun x y => Eq.trans (b := (A_0 (s0c s1 fun r => some (e r))).G x y) (by kernel_rfl) (by simp only [A_0, s0c, bif_bind, sum_bind, oa, os, on, ofs])
theorem s1_ev : EvA (env g80 s0 s1 s2 s3 s4) [1, 1] [0] e (A_1 (s1c s2 some)) := fun x y => Eq.trans (b := (A_1 (s1c s2 fun r => some (e r))).G x y) (by kernel_rfl) (by simp only [A_1, s1c, bif_bind, sum_bind, oa, os, on, ofs])
theorem s2_ev : EvA (env g80 s0 s1 s2 s3 s4) [4, 1, 0, 1, 1] [0, 3] e (A_2 (s2c g80 s3 some)) := fun x y => Eq.trans (b := (A_2 (s2c g80 s3 fun r => some (e r))).G x y) (by kernel_rfl) (by simp only [A_2, s2c, bif_bind, sum_bind, oa, os, on, ofs])
theorem s3_ev : EvA (env g80 s0 s1 s2 s3 s4) [1, 4, 0, 1, 5, 4, 1, 0, 1, 1] [0, 3, 46] e (A_3 (s3c s4 some)) := fun x y => Eq.trans (b := (A_3 (s3c s4 fun r => some (e r))).G x y) (by kernel_rfl) (by simp only [A_3, s3c, bif_bind, sum_bind, oa, os, on, ofs])
theorem s4_ev : EvA (env g80 s0 s1 s2 s3 s4) [1, 1, 5, 4, 1, 0, 1, 1] [0, 3] e (A_4 (s4c s2 some)) := fun x y => Eq.trans (b := (A_4 (s4c s2 fun r => some (e r))).G x y) (by kernel_rfl) (by simp only [A_4, s4c, bif_bind, sum_bind, oa, os, on, ofs])
end
mutual
def s0 : Nat → S0 Int
  | 0, _, _ => none
  | k + 1, x0, x1 => s0c (s1 k) some x0 x1
def s1 : Nat → S1 Int
  | 0, _ => none
  | k + 1, x0 => s1c (s2 k) some x0
def s2 : Nat → S2 Int
  | 0, _, _ => none
  | k + 1, x0, x1 => s2c (transomref08_letter.f k) (s3 k) some x0 x1
def s3 : Nat → S3 Int
  | 0, _, _, _ => none
  | k + 1, x0, x1, x2 => s3c (s4 k) some x0 x1 x2
def s4 : Nat → S4 Int
  | 0, _, _ => none
  | k + 1, x0, x1 => s4c (s2 k) some x0 x1
end
def f (k : Nat) (a0 : ByteArray) : Option Int := c (transomref08_letter.f k) (s0 k) some a0
noncomputable abbrev E (k : Nat) : FEnv := env (transomref08_letter.f k) (s0 k) (s1 k) (s2 k) (s3 k) (s4 k)
theorem hE (k : Nat) : EnvOK (E k).toEnv := ctsOK (Lc (transomref08_letter.ok k) L0)
theorem segs_ok : ∀ k, ∀ s ∈ [sg0 (s0 k), sg1 (s1 k), sg2 (s2 k), sg3 (s3 k), sg4 (s4 k)], SegB prog f73 0 s
  | 0 => (Lc (sg_none (Lc (fun _ _ => rfl) L0)) (Lc (sg_none (Lc (fun _ _ => rfl) L0)) (Lc (sg_none (Lc (fun _ _ => rfl) L0)) (Lc (sg_none (Lc (fun _ _ => rfl) L0)) (Lc (sg_none (Lc (fun _ _ => rfl) L0)) L0)))))
  | k + 1 => (Lc (sg_ok (hE k) (segs_ok k) (Lc s0_ev L0)) (Lc (sg_ok (hE k) (segs_ok k) (Lc s1_ev L0)) (Lc (sg_ok (hE k) (segs_ok k) (Lc s2_ev L0)) (Lc (sg_ok (hE k) (segs_ok k) (Lc s3_ev L0)) (Lc (sg_ok (hE k) (segs_ok k) (Lc s4_ev L0)) L0)))))
theorem ok (k : Nat) : CtOK prog 73 (ct (f k)) := fn_ok func73 rfl (by decide) (hE k) (segs_ok k) (Lc ev L0)
end transomref08_Check
namespace transomref37_names
abbrev R : Type := ByteArray × Int
def e (r : R) : Res := ⟨.tup [(.one (.d .str r.1)), (.one (.d (.int .i64) r.2))], []⟩
abbrev T (δ : Type) : Type := (List ByteArray) → Option δ
abbrev A {δ : Type} (g : T δ) : Arm δ := ⟨[.d (.sl .str)], [], fun x y => g x.1⟩
abbrev G : Type := T R
def ct (g : G) : Ct := mkCt 0 [] [A g] e
abbrev S0 (δ : Type) : Type := (List ByteArray) → ByteArray → Int → Option δ
abbrev A_0 {δ : Type} (s : S0 δ) : Arm δ := ⟨[.d (.sl .str), .d .str, .d (.int .i64)], [], fun x y => s x.1 x.2.1 x.2.2.1⟩
def sg0 (s : S0 R) : Seg := mkSg [4, 1, 0, 1, 1] [] [0, 4, 5] [A_0 s] e
section
variable {β : Type} (g73 : transomref08_Check.G) (s0 : S0 R)
noncomputable abbrev env : FEnv := mkEnv prog f65 [(73, transomref08_Check.ct g73)] 0 [] [sg0 s0]
def c (ret : R → Option β) (a0 : List ByteArray) : Option β := ((s0 a0 (ByteArray.mk (List.toArray [])) (0 : Int)).bind ret)
def s0c (ret : R → Option β) (x0 : List ByteArray) (x1 : ByteArray) (x2 : Int) : Option β := (bif (decide (x2 < (x0.length : Int))) then (bif ((decide ((0 : Int) ≤ x2)) && (decide (x2 < (x0.length : Int)))) then ((g73 (elem Ty.str x0 x2)).bind fun r0 => (bif (r0 != (0 : Int)) then (ret ((ByteArray.mk (List.toArray [])), r0)) else (bif ((decide (x1.size ≤ (4611686018427387903 : Nat))) && true) then (bif ((decide ((0 : Int) ≤ x2)) && (decide (x2 < (x0.length : Int)))) then (bif ((decide ((ByteArray.size (x1 ++ (ByteArray.mk (List.toArray [(32 : UInt8)])))) ≤ (4611686018427387903 : Nat))) && (decide ((ByteArray.size (elem Ty.str x0 x2)) ≤ (4611686018427387903 : Nat)))) then ((s0 x0 ((x1 ++ (ByteArray.mk (List.toArray [(32 : UInt8)]))) ++ (elem Ty.str x0 x2)) (IntKind.wrap .i64 (x2 + (1 : Int)))).bind ret) else none) else none) else none))) else none) else (ret (x1, (0 : Int))))
variable {g73} {s0}
theorem ev : EvA (env g73 s0) [] [0] e (A (c s0 some)) := fun x y => Eq.trans (b := (A (c s0 fun r => some (e r))).G x y) (by kernel_rfl) (by simp only [A, c, bif_bind, sum_bind, oa, os, on, ofs])
theorem s0_ev : EvA (env g73 s0) [4, 1, 0, 1, 1] [0, 4, 5] e (A_0 (s0c g73 s0 some)) := fun x y => Eq.trans (b := (A_0 (s0c g73 s0 fun r => some (e r))).G x y) (by kernel_rfl) (by simp only [A_0, s0c, bif_bind, sum_bind, oa, os, on, ofs])
end
def s0 : Nat → S0 R
  | 0, _, _, _ => none
  | k + 1, x0, x1, x2 => s0c (transomref08_Check.f k) (s0 k) some x0 x1 x2
def f (k : Nat) (a0 : List ByteArray) : Option R := c (s0 k) some a0
noncomputable abbrev E (k : Nat) : FEnv := env (transomref08_Check.f k) (s0 k)
theorem hE (k : Nat) : EnvOK (E k).toEnv := ctsOK (Lc (transomref08_Check.ok k) L0)
theorem segs_ok : ∀ k, ∀ s ∈ [sg0 (s0 k)], SegB prog f65 0 s
  | 0 => (Lc (sg_none (Lc (fun _ _ => rfl) L0)) L0)
  | k + 1 => (Lc (sg_ok (hE k) (segs_ok k) (Lc s0_ev L0)) L0)
theorem ok (k : Nat) : CtOK prog 65 (ct (f k)) := fn_ok func65 rfl (by decide) (hE k) (segs_ok k) (Lc ev L0)
end transomref37_names
namespace transomref37_named
abbrev R : Type := ByteArray × Int
def e (r : R) : Res := ⟨.tup [(.one (.d .str r.1)), (.one (.d (.int .i64) r.2))], []⟩
abbrev T (δ : Type) : Type := ByteArray → (List ByteArray) → Option δ
abbrev A {δ : Type} (g : T δ) : Arm δ := ⟨[.d .str, .d (.sl .str)], [], fun x y => g x.1 x.2.1⟩
abbrev G : Type := T R
def ct (g : G) : Ct := mkCt 0 [] [A g] e
section
variable {β : Type} (g65 : transomref37_names.G)
noncomputable abbrev env : FEnv := mkEnv prog f50 [(65, transomref37_names.ct g65)] 0 [] []
def c (ret : R → Option β) (a0 : ByteArray) (a1 : List ByteArray) : Option β := ((g65 a1).bind fun r0 => (bif (r0.2 != (0 : Int)) then (ret ((ByteArray.mk (List.toArray [])), r0.2)) else (bif ((decide (a0.size ≤ (4611686018427387903 : Nat))) && (decide (r0.1.size ≤ (4611686018427387903 : Nat)))) then (ret ((a0 ++ r0.1), (0 : Int))) else none)))
variable {g65}
theorem ev : EvA (env g65) [] [0, 1] e (A (c g65 some)) := fun x y => Eq.trans (b := (A (c g65 fun r => some (e r))).G x y) (by kernel_rfl) (by simp only [A, c, bif_bind, sum_bind, oa, os, on, ofs])
end
def f (k : Nat) (a0 : ByteArray) (a1 : List ByteArray) : Option R := c (transomref37_names.f k) some a0 a1
noncomputable abbrev E (k : Nat) : FEnv := env (transomref37_names.f k) 
theorem hE (k : Nat) : EnvOK (E k).toEnv := ctsOK (Lc (transomref37_names.ok k) L0)
theorem ok (k : Nat) : CtOK prog 50 (ct (f k)) := fn_ok func50 rfl (by decide) (hE k) L0 (Lc ev L0)
end transomref37_named
namespace transomref02_exponent
def e (r : Int) : Res := ⟨.v (.one (.d (.int .i64) r)), []⟩
abbrev T (δ : Type) : Type := Int → Option δ
abbrev A {δ : Type} (g : T δ) : Arm δ := ⟨[.d (.int .u64)], [], fun x y => g x.1⟩
abbrev G : Type := T Int
def ct (g : G) : Ct := mkCt 0 [] [A g] e
section
variable {β : Type} 
noncomputable abbrev env : FEnv := mkEnv prog f87 [] 0 [] []
def c (ret : Int → Option β) (a0 : Int) : Option β := (ret ((IntKind.wrap .i64 (IntKind.wrap .u64 ((BitVec.toNat ((BitVec.ofInt (64 : Nat) (Int.fdiv a0 (4503599627370496 : Int))) &&& (BitVec.ofInt (64 : Nat) (2047 : Int)))) : Int)))))
theorem ev : EvA (env) [] [0] e (A (c some)) := fun x y => Eq.trans (b := (A (c fun r => some (e r))).G x y) (by kernel_rfl) (by simp only [A, c, bif_bind, sum_bind, oa, os, on, ofs])
end
def f (k : Nat) (a0 : Int) : Option Int := c  some a0
noncomputable abbrev E (k : Nat) : FEnv := env  
theorem hE (k : Nat) : EnvOK (E k).toEnv := ctsOK L0
theorem ok (k : Nat) : CtOK prog 87 (ct (f k)) := fn_ok func87 rfl (by decide) (hE k) L0 (Lc ev L0)
end transomref02_exponent
namespace transomref02_fraction
def e (r : Int) : Res := ⟨.v (.one (.d (.int .u64) r)), []⟩
abbrev T (δ : Type) : Type := Int → Option δ
abbrev A {δ : Type} (g : T δ) : Arm δ := ⟨[.d (.int .u64)], [], fun x y => g x.1⟩
abbrev G : Type := T Int
def ct (g : G) : Ct := mkCt 0 [] [A g] e
section
variable {β : Type} 
noncomputable abbrev env : FEnv := mkEnv prog f88 [] 0 [] []
def c (ret : Int → Option β) (a0 : Int) : Option β := (ret ((IntKind.wrap .u64 ((BitVec.toNat ((BitVec.ofInt (64 : Nat) a0) &&& (BitVec.ofInt (64 : Nat) (4503599627370495 : Int)))) : Int))))
theorem ev : EvA (env) [] [0] e (A (c some)) := fun x y => Eq.trans (b := (A (c fun r => some (e r))).G x y) (by kernel_rfl) (by simp only [A, c, bif_bind, sum_bind, oa, os, on, ofs])
end
def f (k : Nat) (a0 : Int) : Option Int := c  some a0
noncomputable abbrev E (k : Nat) : FEnv := env  
theorem hE (k : Nat) : EnvOK (E k).toEnv := ctsOK L0
theorem ok (k : Nat) : CtOK prog 88 (ct (f k)) := fn_ok func88 rfl (by decide) (hE k) L0 (Lc ev L0)
end transomref02_fraction
namespace transomref02_Class
def e (r : Int) : Res := ⟨.v (.one (.d (.int .i64) r)), []⟩
abbrev T (δ : Type) : Type := Int → Option δ
abbrev A {δ : Type} (g : T δ) : Arm δ := ⟨[.d (.int .u64)], [], fun x y => g x.1⟩
abbrev G : Type := T Int
def ct (g : G) : Ct := mkCt 0 [] [A g] e
abbrev S0 (δ : Type) : Type := Int → Bool → Option δ
abbrev A_0 {δ : Type} (s : S0 δ) : Arm δ := ⟨[.d (.int .u64), .d .bool], [], fun x y => s x.1 x.2.1⟩
def sg0 (s : S0 Int) : Seg := mkSg [1, 4, 0, 1] [] [0, 3] [A_0 s] e
section
variable {β : Type} (g87 : transomref02_exponent.G) (g88 : transomref02_fraction.G) (s0 : S0 Int)
noncomputable abbrev env : FEnv := mkEnv prog f84 [(87, transomref02_exponent.ct g87), (88, transomref02_fraction.ct g88)] 0 [] [sg0 s0]
def c (ret : Int → Option β) (a0 : Int) : Option β := ((g87 a0).bind fun r0 => (bif (r0 == (2047 : Int)) then ((g88 a0).bind fun r1 => ((s0 a0 (r1 != (0 : Int))).bind ret)) else ((s0 a0 false).bind ret)))
def s0c (ret : Int → Option β) (x0 : Int) (x1 : Bool) : Option β := (bif x1 then (ret ((1 : Int))) else ((g87 x0).bind fun r0 => (bif (r0 == (2047 : Int)) then (ret ((2 : Int))) else ((g87 x0).bind fun r1 => (bif (r1 == (0 : Int)) then ((g88 x0).bind fun r2 => (bif (r2 == (0 : Int)) then (ret ((3 : Int))) else ((g87 x0).bind fun r3 => (bif (r3 == (0 : Int)) then (ret ((4 : Int))) else (ret ((5 : Int))))))) else ((g87 x0).bind fun r4 => (bif (r4 == (0 : Int)) then (ret ((4 : Int))) else (ret ((5 : Int))))))))))
variable {g87} {g88} {s0}
theorem ev : EvA (env g87 g88 s0) [] [0] e (A (c g87 g88 s0 some)) := fun x y => Eq.trans (b := (A (c g87 g88 s0 fun r => some (e r))).G x y) (by kernel_rfl) (by simp only [A, c, bif_bind, sum_bind, oa, os, on, ofs])
theorem s0_ev : EvA (env g87 g88 s0) [1, 4, 0, 1] [0, 3] e (A_0 (s0c g87 g88 some)) := fun x y => Eq.trans (b := (A_0 (s0c g87 g88 fun r => some (e r))).G x y) (by kernel_rfl) (by simp only [A_0, s0c, bif_bind, sum_bind, oa, os, on, ofs])
end
def s0 : Nat → S0 Int
  | 0, _, _ => none
  | k + 1, x0, x1 => s0c (transomref02_exponent.f k) (transomref02_fraction.f k) some x0 x1
def f (k : Nat) (a0 : Int) : Option Int := c (transomref02_exponent.f k) (transomref02_fraction.f k) (s0 k) some a0
noncomputable abbrev E (k : Nat) : FEnv := env (transomref02_exponent.f k) (transomref02_fraction.f k) (s0 k)
theorem hE (k : Nat) : EnvOK (E k).toEnv := ctsOK (Lc (transomref02_exponent.ok k) (Lc (transomref02_fraction.ok k) L0))
theorem segs_ok : ∀ k, ∀ s ∈ [sg0 (s0 k)], SegB prog f84 0 s
  | 0 => (Lc (sg_none (Lc (fun _ _ => rfl) L0)) L0)
  | k + 1 => (Lc (sg_ok (hE k) (segs_ok k) (Lc s0_ev L0)) L0)
theorem ok (k : Nat) : CtOK prog 84 (ct (f k)) := fn_ok func84 rfl (by decide) (hE k) (segs_ok k) (Lc ev L0)
end transomref02_Class
namespace transomref02_Canon
def e (r : Int) : Res := ⟨.v (.one (.d (.int .u64) r)), []⟩
abbrev T (δ : Type) : Type := Int → Option δ
abbrev A {δ : Type} (g : T δ) : Arm δ := ⟨[.d (.int .u64)], [], fun x y => g x.1⟩
abbrev G : Type := T Int
def ct (g : G) : Ct := mkCt 0 [] [A g] e
section
variable {β : Type} (g84 : transomref02_Class.G)
noncomputable abbrev env : FEnv := mkEnv prog f81 [(84, transomref02_Class.ct g84)] 0 [] []
def c (ret : Int → Option β) (a0 : Int) : Option β := ((g84 a0).bind fun r0 => (bif (r0 == (1 : Int)) then (ret ((9221120237041090560 : Int))) else (ret (a0))))
variable {g84}
theorem ev : EvA (env g84) [] [0] e (A (c g84 some)) := fun x y => Eq.trans (b := (A (c g84 fun r => some (e r))).G x y) (by kernel_rfl) (by simp only [A, c, bif_bind, sum_bind, oa, os, on, ofs])
end
def f (k : Nat) (a0 : Int) : Option Int := c (transomref02_Class.f k) some a0
noncomputable abbrev E (k : Nat) : FEnv := env (transomref02_Class.f k) 
theorem hE (k : Nat) : EnvOK (E k).toEnv := ctsOK (Lc (transomref02_Class.ok k) L0)
theorem ok (k : Nat) : CtOK prog 81 (ct (f k)) := fn_ok func81 rfl (by decide) (hE k) L0 (Lc ev L0)
end transomref02_Canon
namespace transomref01_lead
abbrev R : Type := Int × Int
def e (r : R) : Res := ⟨.tup [(.one (.d (.int .i64) r.1)), (.one (.d (.int .i64) r.2))], []⟩
abbrev T (δ : Type) : Type := Int → Option δ
abbrev A {δ : Type} (g : T δ) : Arm δ := ⟨[.d (.int .i64)], [], fun x y => g x.1⟩
abbrev G : Type := T R
def ct (g : G) : Ct := mkCt 0 [] [A g] e
abbrev S0 (δ : Type) : Type := Int → Bool → Option δ
abbrev A_0 {δ : Type} (s : S0 δ) : Arm δ := ⟨[.d (.int .i64), .d .bool], [], fun x y => s x.1 x.2.1⟩
abbrev S1 (δ : Type) : Type := Int → Bool → Option δ
abbrev A_1 {δ : Type} (s : S1 δ) : Arm δ := ⟨[.d (.int .i64), .d .bool], [], fun x y => s x.1 x.2.1⟩
def sg0 (s : S0 R) : Seg := mkSg [1, 3, 1, 4, 0, 1] [] [0, 8] [A_0 s] e
def sg1 (s : S1 R) : Seg := mkSg [1, 3, 1, 3, 1, 4, 0, 1] [] [0, 17] [A_1 s] e
section
variable {β : Type} (s0 : S0 R) (s1 : S1 R)
noncomputable abbrev env : FEnv := mkEnv prog f90 [] 0 [] [sg0 s0, sg1 s1]
def c (ret : R → Option β) (a0 : Int) : Option β := (bif (decide (a0 < (128 : Int))) then (ret ((1 : Int), a0)) else (bif (decide (a0 ≥ (192 : Int))) then ((s0 a0 (decide (a0 < (224 : Int)))).bind ret) else ((s0 a0 false).bind ret)))
def s0c (ret : R → Option β) (x0 : Int) (x1 : Bool) : Option β := (bif x1 then (ret ((2 : Int), (IntKind.wrap .i64 (x0 - (192 : Int))))) else (bif (decide (x0 ≥ (224 : Int))) then ((s1 x0 (decide (x0 < (240 : Int)))).bind ret) else ((s1 x0 false).bind ret)))
def s1c (ret : R → Option β) (x0 : Int) (x1 : Bool) : Option β := (bif x1 then (ret ((3 : Int), (IntKind.wrap .i64 (x0 - (224 : Int))))) else (bif (decide (x0 ≥ (240 : Int))) then (bif (decide (x0 < (248 : Int))) then (ret ((4 : Int), (IntKind.wrap .i64 (x0 - (240 : Int))))) else (ret ((0 : Int), (0 : Int)))) else (ret ((0 : Int), (0 : Int)))))
variable {s0} {s1}
theorem ev : EvA (env s0 s1) [] [0] e (A (c s0 some)) := fun x y => Eq.trans (b := (A (c s0 fun r => some (e r))).G x y) (by kernel_rfl) (by simp only [A, c, bif_bind, sum_bind, oa, os, on, ofs])
theorem s0_ev : EvA (env s0 s1) [1, 3, 1, 4, 0, 1] [0, 8] e (A_0 (s0c s1 some)) := fun x y => Eq.trans (b := (A_0 (s0c s1 fun r => some (e r))).G x y) (by kernel_rfl) (by simp only [A_0, s0c, bif_bind, sum_bind, oa, os, on, ofs])
theorem s1_ev : EvA (env s0 s1) [1, 3, 1, 3, 1, 4, 0, 1] [0, 17] e (A_1 (s1c some)) := fun x y => Eq.trans (b := (A_1 (s1c fun r => some (e r))).G x y) (by kernel_rfl) (by simp only [A_1, s1c, bif_bind, sum_bind, oa, os, on, ofs])
end
mutual
def s0 : Nat → S0 R
  | 0, _, _ => none
  | k + 1, x0, x1 => s0c (s1 k) some x0 x1
def s1 : Nat → S1 R
  | 0, _, _ => none
  | k + 1, x0, x1 => s1c  some x0 x1
end
def f (k : Nat) (a0 : Int) : Option R := c (s0 k) some a0
noncomputable abbrev E (k : Nat) : FEnv := env  (s0 k) (s1 k)
theorem hE (k : Nat) : EnvOK (E k).toEnv := ctsOK L0
theorem segs_ok : ∀ k, ∀ s ∈ [sg0 (s0 k), sg1 (s1 k)], SegB prog f90 0 s
  | 0 => (Lc (sg_none (Lc (fun _ _ => rfl) L0)) (Lc (sg_none (Lc (fun _ _ => rfl) L0)) L0))
  | k + 1 => (Lc (sg_ok (hE k) (segs_ok k) (Lc s0_ev L0)) (Lc (sg_ok (hE k) (segs_ok k) (Lc s1_ev L0)) L0))
theorem ok (k : Nat) : CtOK prog 90 (ct (f k)) := fn_ok func90 rfl (by decide) (hE k) (segs_ok k) (Lc ev L0)
end transomref01_lead
namespace transomref01_among
def e (r : Bool) : Res := ⟨.v (.one (.d .bool r)), []⟩
abbrev T (δ : Type) : Type := Int → Int → Int → Option δ
abbrev A {δ : Type} (g : T δ) : Arm δ := ⟨[.d (.int .i64), .d (.int .i64), .d (.int .i64)], [], fun x y => g x.1 x.2.1 x.2.2.1⟩
abbrev G : Type := T Bool
def ct (g : G) : Ct := mkCt 0 [] [A g] e
abbrev S0 (δ : Type) : Type := Int → Int → Int → Int → Int → Option δ
abbrev A_0 {δ : Type} (s : S0 δ) : Arm δ := ⟨[.d (.int .i64), .d (.int .i64), .d (.int .i64), .d (.int .i64), .d (.int .i64)], [], fun x y => s x.1 x.2.1 x.2.2.1 x.2.2.2.1 x.2.2.2.2.1⟩
abbrev S1 (δ : Type) : Type := Int → Int → Int → Int → Int → Option δ
abbrev A_1 {δ : Type} (s : S1 δ) : Arm δ := ⟨[.d (.int .i64), .d (.int .i64), .d (.int .i64), .d (.int .i64), .d (.int .i64)], [], fun x y => s x.1 x.2.1 x.2.2.1 x.2.2.2.1 x.2.2.2.2.1⟩
abbrev S2 (δ : Type) : Type := Int → Int → Int → Int → Option δ
abbrev A_2 {δ : Type} (s : S2 δ) : Arm δ := ⟨[.d (.int .i64), .d (.int .i64), .d (.int .i64), .d (.int .i64)], [], fun x y => s x.1 x.2.1 x.2.2.1 x.2.2.2.1⟩
def sg0 (s : S0 Bool) : Seg := mkSg [1, 1, 1] [] [0, 1, 2, 7, 8] [A_0 s] e
def sg1 (s : S1 Bool) : Seg := mkSg [1, 1, 1, 1] [] [0, 1, 2, 7, 8] [A_1 s] e
def sg2 (s : S2 Bool) : Seg := mkSg [1, 1, 1, 1, 1] [] [0, 1, 7, 8] [A_2 s] e
section
variable {β : Type} (s0 : S0 Bool) (s1 : S1 Bool) (s2 : S2 Bool)
noncomputable abbrev env : FEnv := mkEnv prog f91 [] 0 [] [sg0 s0, sg1 s1, sg2 s2]
def c (ret : Bool → Option β) (a0 : Int) (a1 : Int) (a2 : Int) : Option β := (bif (a2 == (2 : Int)) then ((s0 a0 a1 a2 (128 : Int) (2047 : Int)).bind ret) else ((s0 a0 a1 a2 (0 : Int) (127 : Int)).bind ret))
def s0c (ret : Bool → Option β) (x0 : Int) (x1 : Int) (x2 : Int) (x3 : Int) (x4 : Int) : Option β := (bif (x2 == (3 : Int)) then ((s1 x0 x1 x2 (2048 : Int) (65535 : Int)).bind ret) else ((s1 x0 x1 x2 x3 x4).bind ret))
def s1c (ret : Bool → Option β) (x0 : Int) (x1 : Int) (x2 : Int) (x3 : Int) (x4 : Int) : Option β := (bif (x2 == (4 : Int)) then ((s2 x0 x1 (65536 : Int) (1114111 : Int)).bind ret) else ((s2 x0 x1 x3 x4).bind ret))
def s2c (ret : Bool → Option β) (x0 : Int) (x1 : Int) (x2 : Int) (x3 : Int) : Option β := (bif (decide ((if (x2 > x0) then x2 else x0) > (if (x3 < x1) then x3 else x1))) then (ret (false)) else (bif (decide ((if (x2 > x0) then x2 else x0) < (55296 : Int))) then (ret (true)) else (ret ((decide ((if (x3 < x1) then x3 else x1) > (57343 : Int)))))))
variable {s0} {s1} {s2}
theorem ev : EvA (env s0 s1 s2) [] [0, 1, 2] e (A (c s0 some)) := fun x y => Eq.trans (b := (A (c s0 fun r => some (e r))).G x y) (by kernel_rfl) (by simp only [A, c, bif_bind, sum_bind, oa, os, on, ofs])
theorem s0_ev : EvA (env s0 s1 s2) [1, 1, 1] [0, 1, 2, 7, 8] e (A_0 (s0c s1 some)) := fun x y => Eq.trans (b := (A_0 (s0c s1 fun r => some (e r))).G x y) (by kernel_rfl) (by simp only [A_0, s0c, bif_bind, sum_bind, oa, os, on, ofs])
theorem s1_ev : EvA (env s0 s1 s2) [1, 1, 1, 1] [0, 1, 2, 7, 8] e (A_1 (s1c s2 some)) := fun x y => Eq.trans (b := (A_1 (s1c s2 fun r => some (e r))).G x y) (by kernel_rfl) (by simp only [A_1, s1c, bif_bind, sum_bind, oa, os, on, ofs])
theorem s2_ev : EvA (env s0 s1 s2) [1, 1, 1, 1, 1] [0, 1, 7, 8] e (A_2 (s2c some)) := fun x y => Eq.trans (b := (A_2 (s2c fun r => some (e r))).G x y) (by kernel_rfl) (by simp only [A_2, s2c, bif_bind, sum_bind, oa, os, on, ofs])
end
mutual
def s0 : Nat → S0 Bool
  | 0, _, _, _, _, _ => none
  | k + 1, x0, x1, x2, x3, x4 => s0c (s1 k) some x0 x1 x2 x3 x4
def s1 : Nat → S1 Bool
  | 0, _, _, _, _, _ => none
  | k + 1, x0, x1, x2, x3, x4 => s1c (s2 k) some x0 x1 x2 x3 x4
def s2 : Nat → S2 Bool
  | 0, _, _, _, _ => none
  | k + 1, x0, x1, x2, x3 => s2c  some x0 x1 x2 x3
end
def f (k : Nat) (a0 : Int) (a1 : Int) (a2 : Int) : Option Bool := c (s0 k) some a0 a1 a2
noncomputable abbrev E (k : Nat) : FEnv := env  (s0 k) (s1 k) (s2 k)
theorem hE (k : Nat) : EnvOK (E k).toEnv := ctsOK L0
theorem segs_ok : ∀ k, ∀ s ∈ [sg0 (s0 k), sg1 (s1 k), sg2 (s2 k)], SegB prog f91 0 s
  | 0 => (Lc (sg_none (Lc (fun _ _ => rfl) L0)) (Lc (sg_none (Lc (fun _ _ => rfl) L0)) (Lc (sg_none (Lc (fun _ _ => rfl) L0)) L0)))
  | k + 1 => (Lc (sg_ok (hE k) (segs_ok k) (Lc s0_ev L0)) (Lc (sg_ok (hE k) (segs_ok k) (Lc s1_ev L0)) (Lc (sg_ok (hE k) (segs_ok k) (Lc s2_ev L0)) L0)))
theorem ok (k : Nat) : CtOK prog 91 (ct (f k)) := fn_ok func91 rfl (by decide) (hE k) (segs_ok k) (Lc ev L0)
end transomref01_among
namespace transomref01_Next
abbrev R : Type := Int × Int × Int
def e (r : R) : Res := ⟨.tup [(.one (.d (.int .i64) r.1)), (.one (.d (.int .i64) r.2.1)), (.one (.d (.int .i64) r.2.2))], []⟩
abbrev T (δ : Type) : Type := ByteArray → Option δ
abbrev A {δ : Type} (g : T δ) : Arm δ := ⟨[.d .str], [], fun x y => g x.1⟩
abbrev G : Type := T R
def ct (g : G) : Ct := mkCt 0 [] [A g] e
abbrev S0 (δ : Type) : Type := ByteArray → Int → Int → Int → Int → Option δ
abbrev A_0 {δ : Type} (s : S0 δ) : Arm δ := ⟨[.d .str, .d (.int .i64), .d (.int .i64), .d (.int .i64), .d (.int .i64)], [], fun x y => s x.1 x.2.1 x.2.2.1 x.2.2.2.1 x.2.2.2.2.1⟩
abbrev S1 (δ : Type) : Type := ByteArray → Int → Int → Int → Int → Option δ
abbrev A_1 {δ : Type} (s : S1 δ) : Arm δ := ⟨[.d .str, .d (.int .i64), .d (.int .i64), .d (.int .i64), .d (.int .i64)], [], fun x y => s x.1 x.2.1 x.2.2.1 x.2.2.2.1 x.2.2.2.2.1⟩
abbrev S2 (δ : Type) : Type := ByteArray → Int → Int → Int → Int → Int → Bool → Option δ
abbrev A_2 {δ : Type} (s : S2 δ) : Arm δ := ⟨[.d .str, .d (.int .i64), .d (.int .i64), .d (.int .i64), .d (.int .i64), .d (.int .i64), .d .bool], [], fun x y => s x.1 x.2.1 x.2.2.1 x.2.2.2.1 x.2.2.2.2.1 x.2.2.2.2.2.1 x.2.2.2.2.2.2.1⟩
abbrev S3 (δ : Type) : Type := ByteArray → Int → Int → Int → Int → Int → Option δ
abbrev A_3 {δ : Type} (s : S3 δ) : Arm δ := ⟨[.d .str, .d (.int .i64), .d (.int .i64), .d (.int .i64), .d (.int .i64), .d (.int .i64)], [], fun x y => s x.1 x.2.1 x.2.2.1 x.2.2.2.1 x.2.2.2.2.1 x.2.2.2.2.2.1⟩
abbrev S4 (δ : Type) : Type := ByteArray → Int → Int → Int → Int → Option δ
abbrev A_4 {δ : Type} (s : S4 δ) : Arm δ := ⟨[.d .str, .d (.int .i64), .d (.int .i64), .d (.int .i64), .d (.int .i64)], [], fun x y => s x.1 x.2.1 x.2.2.1 x.2.2.2.1 x.2.2.2.2.1⟩
def sg0 (s : S0 R) : Seg := mkSg [4, 1, 0, 1, 1, 1, 1, 1] [] [0, 5, 6, 7, 8] [A_0 s] e
def sg1 (s : S1 R) : Seg := mkSg [4, 1, 0, 1, 1, 1, 1, 1, 1, 1] [] [0, 5, 6, 7, 9] [A_1 s] e
def sg2 (s : S2 R) : Seg := mkSg [1, 0, 1, 1, 4, 0, 1, 5, 4, 1, 0, 1, 1, 1, 1, 1, 1, 1] [] [0, 5, 6, 7, 9, 10, 60] [A_2 s] e
def sg3 (s : S3 R) : Seg := mkSg [1, 1, 1, 4, 0, 1, 5, 4, 1, 0, 1, 1, 1, 1, 1, 1, 1] [] [0, 5, 6, 7, 9, 10] [A_3 s] e
def sg4 (s : S4 R) : Seg := mkSg [1, 1, 5, 4, 1, 0, 1, 1, 1, 1, 1, 1, 1] [] [0, 5, 6, 7, 9] [A_4 s] e
section
variable {β : Type} (g90 : transomref01_lead.G) (g91 : transomref01_among.G) (s0 : S0 R) (s1 : S1 R) (s2 : S2 R) (s3 : S3 R) (s4 : S4 R)
noncomputable abbrev env : FEnv := mkEnv prog f89 [(90, transomref01_lead.ct g90), (91, transomref01_among.ct g91)] 0 [] [sg0 s0, sg1 s1, sg2 s2, sg3 s3, sg4 s4]
def c (ret : R → Option β) (a0 : ByteArray) : Option β := (bif ((a0.size : Int) == (0 : Int)) then (ret ((0 : Int), (0 : Int), (3 : Int))) else (bif (true && (decide ((0 : Int) < (a0.size : Int)))) then ((g90 (IntKind.wrap .i64 (bt a0 (0 : Int)))).bind fun r0 => (bif (r0.1 == (0 : Int)) then (ret ((0 : Int), (0 : Int), (7 : Int))) else ((s0 a0 r0.1 r0.2 (1 : Int) (1 : Int)).bind ret))) else none))
def s0c (ret : R → Option β) (x0 : ByteArray) (x1 : Int) (x2 : Int) (x3 : Int) (x4 : Int) : Option β := (bif (decide (x4 < x1)) then ((s0 x0 x1 x2 (IntKind.wrap .i64 (x3 * (64 : Int))) (IntKind.wrap .i64 (x4 + (1 : Int)))).bind ret) else ((g91 (IntKind.wrap .i64 (x2 * x3)) (IntKind.wrap .i64 ((IntKind.wrap .i64 ((IntKind.wrap .i64 (x2 * x3)) + x3)) - (1 : Int))) x1).bind fun r0 => (bif (!r0) then (ret ((0 : Int), (0 : Int), (7 : Int))) else ((s1 x0 x1 x2 x3 (1 : Int)).bind ret))))
def s1c (ret : R → Option β) (x0 : ByteArray) (x1 : Int) (x2 : Int) (x3 : Int) (x4 : Int) : Option β := (bif (decide (x4 < x1)) then (bif (decide (x4 ≥ (x0.size : Int))) then (ret ((0 : Int), (0 : Int), (3 : Int))) else (bif ((decide ((0 : Int) ≤ x4)) && (decide (x4 < (x0.size : Int)))) then (bif (decide ((IntKind.wrap .i64 (bt x0 x4)) < (128 : Int))) then ((s2 x0 x1 x2 x3 x4 (IntKind.wrap .i64 (bt x0 x4)) true).bind ret) else ((s2 x0 x1 x2 x3 x4 (IntKind.wrap .i64 (bt x0 x4)) (decide ((IntKind.wrap .i64 (bt x0 x4)) > (191 : Int)))).bind ret)) else none)) else (ret (x2, x1, (0 : Int))))
def s2c (ret : R → Option β) (x0 : ByteArray) (x1 : Int) (x2 : Int) (x3 : Int) (x4 : Int) (x5 : Int) (x6 : Bool) : Option β := (bif x6 then (ret ((0 : Int), (0 : Int), (7 : Int))) else ((s3 x0 x1 x2 x3 x4 x5).bind ret))
def s3c (ret : R → Option β) (x0 : ByteArray) (x1 : Int) (x2 : Int) (x3 : Int) (x4 : Int) (x5 : Int) : Option β := ((g91 (IntKind.wrap .i64 ((IntKind.wrap .i64 ((IntKind.wrap .i64 ((IntKind.wrap .i64 (x2 * (64 : Int))) + x5)) - (128 : Int))) * (IntKind.wrap .i64 (Int.tdiv x3 (64 : Int))))) (IntKind.wrap .i64 ((IntKind.wrap .i64 ((IntKind.wrap .i64 ((IntKind.wrap .i64 ((IntKind.wrap .i64 ((IntKind.wrap .i64 (x2 * (64 : Int))) + x5)) - (128 : Int))) * (IntKind.wrap .i64 (Int.tdiv x3 (64 : Int))))) + (IntKind.wrap .i64 (Int.tdiv x3 (64 : Int))))) - (1 : Int))) x1).bind fun r0 => (bif (!r0) then (ret ((0 : Int), (0 : Int), (7 : Int))) else ((s4 x0 x1 (IntKind.wrap .i64 ((IntKind.wrap .i64 ((IntKind.wrap .i64 (x2 * (64 : Int))) + x5)) - (128 : Int))) (IntKind.wrap .i64 (Int.tdiv x3 (64 : Int))) x4).bind ret)))
def s4c (ret : R → Option β) (x0 : ByteArray) (x1 : Int) (x2 : Int) (x3 : Int) (x4 : Int) : Option β := ((s1 x0 x1 x2 x3 (IntKind.wrap .i64 (x4 + (1 : Int)))).bind ret)
variable {g90} {g91} {s0} {s1} {s2} {s3} {s4}
theorem ev : EvA (env g90 g91 s0 s1 s2 s3 s4) [] [0] e (A (c g90 s0 some)) := fun x y => Eq.trans (b := (A (c g90 s0 fun r => some (e r))).G x y) (by kernel_rfl) (by simp only [A, c, bif_bind, sum_bind, oa, os, on, ofs])
theorem s0_ev : EvA (env g90 g91 s0 s1 s2 s3 s4) [4, 1, 0, 1, 1, 1, 1, 1] [0, 5, 6, 7, 8] e (A_0 (s0c g91 s0 s1 some)) := fun x y => Eq.trans (b := (A_0 (s0c g91 s0 s1 fun r => some (e r))).G x y) (by kernel_rfl) (by simp only [A_0, s0c, bif_bind, sum_bind, oa, os, on, ofs])
theorem s1_ev : EvA (env g90 g91 s0 s1 s2 s3 s4) [4, 1, 0, 1, 1, 1, 1, 1, 1, 1] [0, 5, 6, 7, 9] e (A_1 (s1c s2 some)) := fun x y => Eq.trans (b := (A_1 (s1c s2 fun r => some (e r))).G x y) (by kernel_rfl) (by simp only [A_1, s1c, bif_bind, sum_bind, oa, os, on, ofs])
theorem s2_ev : EvA (env g90 g91 s0 s1 s2 s3 s4) [1, 0, 1, 1, 4, 0, 1, 5, 4, 1, 0, 1, 1, 1, 1, 1, 1, 1] [0, 5, 6, 7, 9, 10, 60] e (A_2 (s2c s3 some)) := fun x y => Eq.trans (b := (A_2 (s2c s3 fun r => some (e r))).G x y) (by kernel_rfl) (by simp only [A_2, s2c, bif_bind, sum_bind, oa, os, on, ofs])
theorem s3_ev : EvA (env g90 g91 s0 s1 s2 s3 s4) [1, 1, 1, 4, 0, 1, 5, 4, 1, 0, 1, 1, 1, 1, 1, 1, 1] [0, 5, 6, 7, 9, 10] e (A_3 (s3c g91 s4 some)) := fun x y => Eq.trans (b := (A_3 (s3c g91 s4 fun r => some (e r))).G x y) (by kernel_rfl) (by simp only [A_3, s3c, bif_bind, sum_bind, oa, os, on, ofs])
theorem s4_ev : EvA (env g90 g91 s0 s1 s2 s3 s4) [1, 1, 5, 4, 1, 0, 1, 1, 1, 1, 1, 1, 1] [0, 5, 6, 7, 9] e (A_4 (s4c s1 some)) := fun x y => Eq.trans (b := (A_4 (s4c s1 fun r => some (e r))).G x y) (by kernel_rfl) (by simp only [A_4, s4c, bif_bind, sum_bind, oa, os, on, ofs])
end
mutual
def s0 : Nat → S0 R
  | 0, _, _, _, _, _ => none
  | k + 1, x0, x1, x2, x3, x4 => s0c (transomref01_among.f k) (s0 k) (s1 k) some x0 x1 x2 x3 x4
def s1 : Nat → S1 R
  | 0, _, _, _, _, _ => none
  | k + 1, x0, x1, x2, x3, x4 => s1c (s2 k) some x0 x1 x2 x3 x4
def s2 : Nat → S2 R
  | 0, _, _, _, _, _, _, _ => none
  | k + 1, x0, x1, x2, x3, x4, x5, x6 => s2c (s3 k) some x0 x1 x2 x3 x4 x5 x6
def s3 : Nat → S3 R
  | 0, _, _, _, _, _, _ => none
  | k + 1, x0, x1, x2, x3, x4, x5 => s3c (transomref01_among.f k) (s4 k) some x0 x1 x2 x3 x4 x5
def s4 : Nat → S4 R
  | 0, _, _, _, _, _ => none
  | k + 1, x0, x1, x2, x3, x4 => s4c (s1 k) some x0 x1 x2 x3 x4
end
def f (k : Nat) (a0 : ByteArray) : Option R := c (transomref01_lead.f k) (s0 k) some a0
noncomputable abbrev E (k : Nat) : FEnv := env (transomref01_lead.f k) (transomref01_among.f k) (s0 k) (s1 k) (s2 k) (s3 k) (s4 k)
theorem hE (k : Nat) : EnvOK (E k).toEnv := ctsOK (Lc (transomref01_lead.ok k) (Lc (transomref01_among.ok k) L0))
theorem segs_ok : ∀ k, ∀ s ∈ [sg0 (s0 k), sg1 (s1 k), sg2 (s2 k), sg3 (s3 k), sg4 (s4 k)], SegB prog f89 0 s
  | 0 => (Lc (sg_none (Lc (fun _ _ => rfl) L0)) (Lc (sg_none (Lc (fun _ _ => rfl) L0)) (Lc (sg_none (Lc (fun _ _ => rfl) L0)) (Lc (sg_none (Lc (fun _ _ => rfl) L0)) (Lc (sg_none (Lc (fun _ _ => rfl) L0)) L0)))))
  | k + 1 => (Lc (sg_ok (hE k) (segs_ok k) (Lc s0_ev L0)) (Lc (sg_ok (hE k) (segs_ok k) (Lc s1_ev L0)) (Lc (sg_ok (hE k) (segs_ok k) (Lc s2_ev L0)) (Lc (sg_ok (hE k) (segs_ok k) (Lc s3_ev L0)) (Lc (sg_ok (hE k) (segs_ok k) (Lc s4_ev L0)) L0)))))
theorem ok (k : Nat) : CtOK prog 89 (ct (f k)) := fn_ok func89 rfl (by decide) (hE k) (segs_ok k) (Lc ev L0)
end transomref01_Next
namespace transomref01_Count
def e (r : Int) : Res := ⟨.v (.one (.d (.int .i64) r)), []⟩
abbrev T (δ : Type) : Type := ByteArray → Option δ
abbrev A {δ : Type} (g : T δ) : Arm δ := ⟨[.d .str], [], fun x y => g x.1⟩
abbrev G : Type := T Int
def ct (g : G) : Ct := mkCt 0 [] [A g] e
abbrev S0 (δ : Type) : Type := ByteArray → Int → Int → Option δ
abbrev A_0 {δ : Type} (s : S0 δ) : Arm δ := ⟨[.d .str, .d (.int .i64), .d (.int .i64)], [], fun x y => s x.1 x.2.1 x.2.2.1⟩
def sg0 (s : S0 Int) : Seg := mkSg [4, 1, 0, 1, 1] [] [0, 3, 4] [A_0 s] e
section
variable {β : Type} (g89 : transomref01_Next.G) (s0 : S0 Int)
noncomputable abbrev env : FEnv := mkEnv prog f85 [(89, transomref01_Next.ct g89)] 0 [] [sg0 s0]
def c (ret : Int → Option β) (a0 : ByteArray) : Option β := ((s0 a0 (0 : Int) (0 : Int)).bind ret)
def s0c (ret : Int → Option β) (x0 : ByteArray) (x1 : Int) (x2 : Int) : Option β := (bif (decide (x2 < (x0.size : Int))) then (bif (((decide ((0 : Int) ≤ x2)) && (decide (x2 ≤ (x0.size : Int)))) && (decide ((x0.size : Int) ≤ (x0.size : Int)))) then ((g89 (ByteArray.extract x0 (Int.toNat x2) (Int.toNat (x0.size : Int)))).bind fun r0 => (bif (r0.2.2 != (0 : Int)) then (ret ((-1 : Int))) else ((s0 x0 (IntKind.wrap .i64 (x1 + (1 : Int))) (IntKind.wrap .i64 (x2 + r0.2.1))).bind ret))) else none) else (ret (x1)))
variable {g89} {s0}
theorem ev : EvA (env g89 s0) [] [0] e (A (c s0 some)) := fun x y => Eq.trans (b := (A (c s0 fun r => some (e r))).G x y) (by kernel_rfl) (by simp only [A, c, bif_bind, sum_bind, oa, os, on, ofs])
theorem s0_ev : EvA (env g89 s0) [4, 1, 0, 1, 1] [0, 3, 4] e (A_0 (s0c g89 s0 some)) := fun x y => Eq.trans (b := (A_0 (s0c g89 s0 fun r => some (e r))).G x y) (by kernel_rfl) (by simp only [A_0, s0c, bif_bind, sum_bind, oa, os, on, ofs])
end
def s0 : Nat → S0 Int
  | 0, _, _, _ => none
  | k + 1, x0, x1, x2 => s0c (transomref01_Next.f k) (s0 k) some x0 x1 x2
def f (k : Nat) (a0 : ByteArray) : Option Int := c (s0 k) some a0
noncomputable abbrev E (k : Nat) : FEnv := env (transomref01_Next.f k) (s0 k)
theorem hE (k : Nat) : EnvOK (E k).toEnv := ctsOK (Lc (transomref01_Next.ok k) L0)
theorem segs_ok : ∀ k, ∀ s ∈ [sg0 (s0 k)], SegB prog f85 0 s
  | 0 => (Lc (sg_none (Lc (fun _ _ => rfl) L0)) L0)
  | k + 1 => (Lc (sg_ok (hE k) (segs_ok k) (Lc s0_ev L0)) L0)
theorem ok (k : Nat) : CtOK prog 85 (ct (f k)) := fn_ok func85 rfl (by decide) (hE k) (segs_ok k) (Lc ev L0)
end transomref01_Count
namespace transomref01_Valid
def e (r : Bool) : Res := ⟨.v (.one (.d .bool r)), []⟩
abbrev T (δ : Type) : Type := ByteArray → Option δ
abbrev A {δ : Type} (g : T δ) : Arm δ := ⟨[.d .str], [], fun x y => g x.1⟩
abbrev G : Type := T Bool
def ct (g : G) : Ct := mkCt 0 [] [A g] e
section
variable {β : Type} (g85 : transomref01_Count.G)
noncomputable abbrev env : FEnv := mkEnv prog f82 [(85, transomref01_Count.ct g85)] 0 [] []
def c (ret : Bool → Option β) (a0 : ByteArray) : Option β := ((g85 a0).bind fun r0 => (ret ((decide (r0 ≥ (0 : Int))))))
variable {g85}
theorem ev : EvA (env g85) [] [0] e (A (c g85 some)) := fun x y => Eq.trans (b := (A (c g85 fun r => some (e r))).G x y) (by kernel_rfl) (by simp only [A, c, bif_bind, sum_bind, oa, os, on, ofs])
end
def f (k : Nat) (a0 : ByteArray) : Option Bool := c (transomref01_Count.f k) some a0
noncomputable abbrev E (k : Nat) : FEnv := env (transomref01_Count.f k) 
theorem hE (k : Nat) : EnvOK (E k).toEnv := ctsOK (Lc (transomref01_Count.ok k) L0)
theorem ok (k : Nat) : CtOK prog 82 (ct (f k)) := fn_ok func82 rfl (by decide) (hE k) L0 (Lc ev L0)
end transomref01_Valid
end Go.Proofs.Ythaannpgcbpjkaa.Aev
