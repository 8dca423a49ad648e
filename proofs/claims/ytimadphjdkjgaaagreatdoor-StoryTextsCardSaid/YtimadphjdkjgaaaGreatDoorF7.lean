import Derived.Test.YtimadphjdkjgaaaGreatDoorTys
import Derived.Test.YtimadphjdkjgaaaGreatDoorProg
import Derived.Laws.Externs
import Derived.Lib.Bytealg
/- By a program of this session (AEV): functions of the program as plain functions, and that the machine does what they say. -/
namespace Go.Proofs.YtimadphjdkjgaaaGreatDoor.Aev
set_option linter.unusedVariables false
set_option linter.unusedSimpArgs false
set_option maxRecDepth 100000
set_option maxHeartbeats 4000000
open Go Go.Proofs.Tryz
namespace r07_Digits
def e (r : ByteArray) : Res := ⟨.v (.one (.d .str r)), []⟩
abbrev T (δ : Type) : Type := Int → Option δ
abbrev A {δ : Type} (g : T δ) : Arm δ := ⟨[.d (.int .i64)], [], fun x y => g x.1⟩
abbrev G : Type := T ByteArray
def ct (g : G) : Ct := mkCt 0 [] [A g] e
abbrev S0 (δ : Type) : Type := Int → Int → Option δ
abbrev A_0 {δ : Type} (s : S0 δ) : Arm δ := ⟨[.d (.int .i64), .d (.int .u64)], [], fun x y => s x.1 x.2.1⟩
abbrev S1 (δ : Type) : Type := Int → Int → ByteArray → Option δ
abbrev A_1 {δ : Type} (s : S1 δ) : Arm δ := ⟨[.d (.int .i64), .d (.int .u64), .d .str], [], fun x y => s x.1 x.2.1 x.2.2.1⟩
def sg0 (s : S0 ByteArray) : Seg := mkSg [1, 1, 1] [] [0, 3] [A_0 s] e
def sg1 (s : S1 ByteArray) : Seg := mkSg [4, 0, 1, 1, 1, 1] [] [0, 3, 4] [A_1 s] e
section
variable {β : Type} (s0 : S0 ByteArray) (s1 : S1 ByteArray)
noncomputable abbrev env : FEnv := mkEnv prog f60 [] 0 [] [sg0 s0, sg1 s1]
def c (ret : ByteArray → Option β) (a0 : Int) : Option β := (bif (decide (a0 < (0 : Int))) then ((s0 a0 (IntKind.wrap .u64 ((0 : Int) - (IntKind.wrap .u64 a0)))).bind ret) else ((s0 a0 (IntKind.wrap .u64 a0)).bind ret))
def s0c (ret : ByteArray → Option β) (x0 x1 : Int) : Option β := ((s1 x0 x1 (ByteArray.mk (List.toArray []))).bind ret)
def s1c (ret : ByteArray → Option β) (x0 x1 : Int) (x2 : ByteArray) : Option β := (bif (decide (x1 ≥ (10 : Int))) then (bif (true && (decide (x2.size ≤ (4611686018427387903 : Nat)))) then ((s1 x0 (IntKind.wrap .u64 (Int.tdiv x1 (10 : Int))) ((ByteArray.mk (List.toArray (List.map (fun n => (UInt8.ofNat (Int.toNat n))) [(IntKind.wrap .u8 (IntKind.wrap .u64 ((48 : Int) + (Int.tmod x1 (10 : Int)))))]))) ++ x2)).bind ret) else none) else (bif (true && (decide (x2.size ≤ (4611686018427387903 : Nat)))) then (bif (decide (x0 < (0 : Int))) then (bif (true && (decide ((ByteArray.size ((ByteArray.mk (List.toArray (List.map (fun n => (UInt8.ofNat (Int.toNat n))) [(IntKind.wrap .u8 (IntKind.wrap .u64 ((48 : Int) + x1)))]))) ++ x2)) ≤ (4611686018427387903 : Nat)))) then (ret (((ByteArray.mk (List.toArray [45])) ++ ((ByteArray.mk (List.toArray (List.map (fun n => (UInt8.ofNat (Int.toNat n))) [(IntKind.wrap .u8 (IntKind.wrap .u64 ((48 : Int) + x1)))]))) ++ x2)))) else none) else (ret (((ByteArray.mk (List.toArray (List.map (fun n => (UInt8.ofNat (Int.toNat n))) [(IntKind.wrap .u8 (IntKind.wrap .u64 ((48 : Int) + x1)))]))) ++ x2)))) else none))
variable {s0} {s1}
theorem ev : EvA (env s0 s1) [] [0] e (A (c s0 some)) := fun x y => Eq.trans (b := (A (c s0 fun r => some (e r))).G x y) (by kernel_rfl) (by simp only [A, c, bo, so, oa, os, on, ofs])
theorem s0_ev : EvA (env s0 s1) [1, 1, 1] [0, 3] e (A_0 (s0c s1 some)) := fun x y => Eq.trans (b := (A_0 (s0c s1 fun r => some (e r))).G x y) (by kernel_rfl) (by simp only [A_0, s0c, bo, so, oa, os, on, ofs])
theorem s1_ev : EvA (env s0 s1) [4, 0, 1, 1, 1, 1] [0, 3, 4] e (A_1 (s1c s1 some)) := fun x y => Eq.trans (b := (A_1 (s1c s1 fun r => some (e r))).G x y) (by kernel_rfl) (by simp only [A_1, s1c, bo, so, oa, os, on, ofs])
end
mutual
def s0 : Nat → S0 ByteArray
 | 0, _, _ => none
 | k + 1, x0, x1 => s0c (s1 k) some x0 x1
def s1 : Nat → S1 ByteArray
 | 0, _, _, _ => none
 | k + 1, x0, x1, x2 => s1c (s1 k) some x0 x1 x2
end
def f (k : Nat) (a0 : Int) : Option ByteArray := c (s0 k) some a0
noncomputable abbrev E (k : Nat) : FEnv := env  (s0 k) (s1 k)
theorem hE (k : Nat) : EnvOK (E k).toEnv := ctsOK L0
theorem sk : ∀ k, ∀ s ∈ [sg0 (s0 k), sg1 (s1 k)], SegB prog f60 0 s
 | 0 => (Lc (sn (Lc (fun _ _ => rfl) L0)) (Lc (sn (Lc (fun _ _ => rfl) L0)) L0))
 | k + 1 => (Lc (sg_ok (hE k) (sk k) (Lc s0_ev L0)) (Lc (sg_ok (hE k) (sk k) (Lc s1_ev L0)) L0))
theorem ok (k : Nat) : CtOK prog 60 (ct (f k)) := fn_ok func60 rfl (by decide) (hE k) (sk k) (Lc ev L0)
end r07_Digits
namespace r37_small
abbrev R : Type := ByteArray × Int
def e (r : R) : Res := ⟨.tup [(.one (.d .str r.1)), (.one (.d (.int .i64) r.2))], []⟩
abbrev T (δ : Type) : Type := Int → Option δ
abbrev A {δ : Type} (g : T δ) : Arm δ := ⟨[.d (.int .i64)], [], fun x y => g x.1⟩
abbrev G : Type := T R
def ct (g : G) : Ct := mkCt 0 [] [A g] e
section
variable {β : Type} (g60 : r07_Digits.G)
noncomputable abbrev env : FEnv := mkEnv prog f32 [(60, r07_Digits.ct g60)] 0 [] []
def c (ret : R → Option β) (a0 : Int) : Option β := (bif (decide (a0 < (0 : Int))) then (ret ((ByteArray.mk (List.toArray [])), (1 : Int))) else (bif (decide (a0 > (1000 : Int))) then (ret ((ByteArray.mk (List.toArray [])), (1 : Int))) else ((g60 a0).bind fun r0 => (bif (true && (decide (r0.size ≤ (4611686018427387903 : Nat)))) then (ret (((ByteArray.mk (List.toArray [32])) ++ r0), (0 : Int))) else none))))
variable {g60}
theorem ev : EvA (env g60) [] [0] e (A (c g60 some)) := fun x y => Eq.trans (b := (A (c g60 fun r => some (e r))).G x y) (by kernel_rfl) (by simp only [A, c, bo, so, oa, os, on, ofs])
end
def f (k : Nat) (a0 : Int) : Option R := c (r07_Digits.f k) some a0
noncomputable abbrev E (k : Nat) : FEnv := env (r07_Digits.f k) 
theorem hE (k : Nat) : EnvOK (E k).toEnv := ctsOK (Lc (r07_Digits.ok k) L0)
theorem ok (k : Nat) : CtOK prog 32 (ct (f k)) := fn_ok func32 rfl (by decide) (hE k) L0 (Lc ev L0)
end r37_small
namespace r04_Name
def e (r : ByteArray) : Res := ⟨.v (.one (.d .str r)), []⟩
abbrev T (δ : Type) : Type := Int → Option δ
abbrev A {δ : Type} (g : T δ) : Arm δ := ⟨[.d (.int .i64)], [], fun x y => g x.1⟩
abbrev G : Type := T ByteArray
def ct (g : G) : Ct := mkCt 0 [] [A g] e
section
variable {β : Type} 
noncomputable abbrev env : FEnv := mkEnv prog f68 [] 0 [] []
def c (ret : ByteArray → Option β) (a0 : Int) : Option β := (bif (a0 == (0 : Int)) then (ret ((ByteArray.mk (List.toArray [110, 117, 108, 108])))) else (bif (a0 == (1 : Int)) then (ret ((ByteArray.mk (List.toArray [98, 111, 111, 108])))) else (bif (a0 == (2 : Int)) then (ret ((ByteArray.mk (List.toArray [105, 110, 116])))) else (bif (a0 == (3 : Int)) then (ret ((ByteArray.mk (List.toArray [114, 101, 97, 108])))) else (bif (a0 == (4 : Int)) then (ret ((ByteArray.mk (List.toArray [98, 121, 116, 101, 115])))) else (bif (a0 == (5 : Int)) then (ret ((ByteArray.mk (List.toArray [116, 101, 120, 116])))) else (ret ((ByteArray.mk (List.toArray []))))))))))
theorem ev : EvA (env) [] [0] e (A (c some)) := fun x y => Eq.trans (b := (A (c fun r => some (e r))).G x y) (by kernel_rfl) (by simp only [A, c, bo, so, oa, os, on, ofs])
end
def f (k : Nat) (a0 : Int) : Option ByteArray := c  some a0
noncomputable abbrev E (k : Nat) : FEnv := env  
theorem hE (k : Nat) : EnvOK (E k).toEnv := ctsOK L0
theorem ok (k : Nat) : CtOK prog 68 (ct (f k)) := fn_ok func68 rfl (by decide) (hE k) L0 (Lc ev L0)
end r04_Name
namespace r37_kind
abbrev R : Type := ByteArray × Int
def e (r : R) : Res := ⟨.tup [(.one (.d .str r.1)), (.one (.d (.int .i64) r.2))], []⟩
abbrev T (δ : Type) : Type := Int → Option δ
abbrev A {δ : Type} (g : T δ) : Arm δ := ⟨[.d (.int .i64)], [], fun x y => g x.1⟩
abbrev G : Type := T R
def ct (g : G) : Ct := mkCt 0 [] [A g] e
section
variable {β : Type} (g68 : r04_Name.G)
noncomputable abbrev env : FEnv := mkEnv prog f38 [(68, r04_Name.ct g68)] 0 [] []
def c (ret : R → Option β) (a0 : Int) : Option β := (bif (decide (a0 < (1 : Int))) then (ret ((ByteArray.mk (List.toArray [])), (5 : Int))) else (bif (decide (a0 > (5 : Int))) then (ret ((ByteArray.mk (List.toArray [])), (5 : Int))) else ((g68 a0).bind fun r0 => (bif (true && (decide (r0.size ≤ (4611686018427387903 : Nat)))) then (ret (((ByteArray.mk (List.toArray [32])) ++ r0), (0 : Int))) else none))))
variable {g68}
theorem ev : EvA (env g68) [] [0] e (A (c g68 some)) := fun x y => Eq.trans (b := (A (c g68 fun r => some (e r))).G x y) (by kernel_rfl) (by simp only [A, c, bo, so, oa, os, on, ofs])
end
def f (k : Nat) (a0 : Int) : Option R := c (r04_Name.f k) some a0
noncomputable abbrev E (k : Nat) : FEnv := env (r04_Name.f k) 
theorem hE (k : Nat) : EnvOK (E k).toEnv := ctsOK (Lc (r04_Name.ok k) L0)
theorem ok (k : Nat) : CtOK prog 38 (ct (f k)) := fn_ok func38 rfl (by decide) (hE k) L0 (Lc ev L0)
end r37_kind
namespace r08_letter
def e (r : Bool) : Res := ⟨.v (.one (.d .bool r)), []⟩
abbrev T (δ : Type) : Type := Int → Option δ
abbrev A {δ : Type} (g : T δ) : Arm δ := ⟨[.d (.int .u8)], [], fun x y => g x.1⟩
abbrev G : Type := T Bool
def ct (g : G) : Ct := mkCt 0 [] [A g] e
section
variable {β : Type} 
noncomputable abbrev env : FEnv := mkEnv prog f109 [] 0 [] []
def c (ret : Bool → Option β) (a0 : Int) : Option β := (bif (decide (a0 ≥ (97 : Int))) then (ret ((decide (a0 ≤ (122 : Int))))) else (ret (false)))
theorem ev : EvA (env) [] [0] e (A (c some)) := fun x y => Eq.trans (b := (A (c fun r => some (e r))).G x y) (by kernel_rfl) (by simp only [A, c, bo, so, oa, os, on, ofs])
end
def f (k : Nat) (a0 : Int) : Option Bool := c  some a0
noncomputable abbrev E (k : Nat) : FEnv := env  
theorem hE (k : Nat) : EnvOK (E k).toEnv := ctsOK L0
theorem ok (k : Nat) : CtOK prog 109 (ct (f k)) := fn_ok func109 rfl (by decide) (hE k) L0 (Lc ev L0)
end r08_letter
namespace r08_Check
def e (r : Int) : Res := ⟨.v (.one (.d (.int .i64) r)), []⟩
abbrev T (δ : Type) : Type := ByteArray → Option δ
abbrev A {δ : Type} (g : T δ) : Arm δ := ⟨[.d .str], [], fun x y => g x.1⟩
abbrev G : Type := T Int
def ct (g : G) : Ct := mkCt 0 [] [A g] e
abbrev S0 (δ : Type) : Type := ByteArray → Bool → Option δ
abbrev A_0 {δ : Type} (s : S0 δ) : Arm δ := ⟨[.d .str, .d .bool], [], fun x y => s x.1 x.2.1⟩
abbrev S1 (δ : Type) : Type := ByteArray → Option δ
abbrev A_1 {δ : Type} (s : S1 δ) : Arm δ := ⟨[.d .str], [], fun x y => s x.1⟩
abbrev S2 (δ : Type) : Type := ByteArray → Int → Option δ
abbrev A_2 {δ : Type} (s : S2 δ) : Arm δ := ⟨[.d .str, .d (.int .i64)], [], fun x y => s x.1 x.2.1⟩
abbrev S3 (δ : Type) : Type := ByteArray → Int → Bool → Option δ
abbrev A_3 {δ : Type} (s : S3 δ) : Arm δ := ⟨[.d .str, .d (.int .i64), .d .bool], [], fun x y => s x.1 x.2.1 x.2.2.1⟩
abbrev S4 (δ : Type) : Type := ByteArray → Int → Option δ
abbrev A_4 {δ : Type} (s : S4 δ) : Arm δ := ⟨[.d .str, .d (.int .i64)], [], fun x y => s x.1 x.2.1⟩
def sg0 (s : S0 Int) : Seg := mkSg [1, 0, 1] [] [0, 17] [A_0 s] e
def sg1 (s : S1 Int) : Seg := mkSg [1, 1] [] [0] [A_1 s] e
def sg2 (s : S2 Int) : Seg := mkSg [4, 1, 0, 1, 1] [] [0, 3] [A_2 s] e
def sg3 (s : S3 Int) : Seg := mkSg [1, 4, 0, 1, 5, 4, 1, 0, 1, 1] [] [0, 3, 46] [A_3 s] e
def sg4 (s : S4 Int) : Seg := mkSg [1, 1, 5, 4, 1, 0, 1, 1] [] [0, 3] [A_4 s] e
section
variable {β : Type} (g109 : r08_letter.G) (s0 : S0 Int) (s1 : S1 Int) (s2 : S2 Int) (s3 : S3 Int) (s4 : S4 Int)
noncomputable abbrev env : FEnv := mkEnv prog f89 [(109, r08_letter.ct g109)] 0 [] [sg0 s0, sg1 s1, sg2 s2, sg3 s3, sg4 s4]
def c (ret : Int → Option β) (a0 : ByteArray) : Option β := (bif (decide ((a0.size : Int) < (1 : Int))) then ((s0 a0 true).bind ret) else (bif (decide ((a0.size : Int) > (16 : Int))) then ((s0 a0 true).bind ret) else (bif (true && (decide ((0 : Int) < (a0.size : Int)))) then ((g109 (bt a0 (0 : Int))).bind fun r0 => ((s0 a0 (!r0)).bind ret)) else none)))
def s0c (ret : Int → Option β) (x0 : ByteArray) (x1 : Bool) : Option β := (bif x1 then (ret ((8 : Int))) else ((s1 x0).bind ret))
def s1c (ret : Int → Option β) (x0 : ByteArray) : Option β := ((s2 x0 (1 : Int)).bind ret)
def s2c (ret : Int → Option β) (x0 : ByteArray) (x1 : Int) : Option β := (bif (decide (x1 < (x0.size : Int))) then (bif ((decide ((0 : Int) ≤ x1)) && (decide (x1 < (x0.size : Int)))) then ((g109 (bt x0 x1)).bind fun r0 => (bif (!r0) then (bif ((decide ((0 : Int) ≤ x1)) && (decide (x1 < (x0.size : Int)))) then (bif ((bt x0 x1) != (95 : Int)) then (bif ((decide ((0 : Int) ≤ x1)) && (decide (x1 < (x0.size : Int)))) then (bif (decide ((bt x0 x1) < (48 : Int))) then ((s3 x0 x1 true).bind ret) else (bif ((decide ((0 : Int) ≤ x1)) && (decide (x1 < (x0.size : Int)))) then ((s3 x0 x1 (decide ((bt x0 x1) > (57 : Int)))).bind ret) else none)) else none) else ((s3 x0 x1 false).bind ret)) else none) else ((s3 x0 x1 false).bind ret))) else none) else (ret ((0 : Int))))
def s3c (ret : Int → Option β) (x0 : ByteArray) (x1 : Int) (x2 : Bool) : Option β := (bif x2 then (ret ((8 : Int))) else ((s4 x0 x1).bind ret))
def s4c (ret : Int → Option β) (x0 : ByteArray) (x1 : Int) : Option β := ((s2 x0 (IntKind.wrap .i64 (x1 + (1 : Int)))).bind ret)
variable {g109} {s0} {s1} {s2} {s3} {s4}
theorem ev : EvA (env g109 s0 s1 s2 s3 s4) [] [0] e (A (c g109 s0 some)) := fun x y => Eq.trans (b := (A (c g109 s0 fun r => some (e r))).G x y) (by kernel_rfl) (by simp only [A, c, bo, so, oa, os, on, ofs])
theorem s0_ev : EvA (env g109 s0 s1 s2 s3 s4) [1, 0, 1] [0, 17] e (A_0 (s0c s1 some)) := fun x y => Eq.trans (b := (A_0 (s0c s1 fun r => some (e r))).G x y) (by kernel_rfl) (by simp only [A_0, s0c, bo, so, oa, os, on, ofs])
theorem s1_ev : EvA (env g109 s0 s1 s2 s3 s4) [1, 1] [0] e (A_1 (s1c s2 some)) := fun x y => Eq.trans (b := (A_1 (s1c s2 fun r => some (e r))).G x y) (by kernel_rfl) (by simp only [A_1, s1c, bo, so, oa, os, on, ofs])
theorem s2_ev : EvA (env g109 s0 s1 s2 s3 s4) [4, 1, 0, 1, 1] [0, 3] e (A_2 (s2c g109 s3 some)) := fun x y => Eq.trans (b := (A_2 (s2c g109 s3 fun r => some (e r))).G x y) (by kernel_rfl) (by simp only [A_2, s2c, bo, so, oa, os, on, ofs])
theorem s3_ev : EvA (env g109 s0 s1 s2 s3 s4) [1, 4, 0, 1, 5, 4, 1, 0, 1, 1] [0, 3, 46] e (A_3 (s3c s4 some)) := fun x y => Eq.trans (b := (A_3 (s3c s4 fun r => some (e r))).G x y) (by kernel_rfl) (by simp only [A_3, s3c, bo, so, oa, os, on, ofs])
theorem s4_ev : EvA (env g109 s0 s1 s2 s3 s4) [1, 1, 5, 4, 1, 0, 1, 1] [0, 3] e (A_4 (s4c s2 some)) := fun x y => Eq.trans (b := (A_4 (s4c s2 fun r => some (e r))).G x y) (by kernel_rfl) (by simp only [A_4, s4c, bo, so, oa, os, on, ofs])
end
mutual
def s0 : Nat → S0 Int
 | 0, _, _ => none
 | k + 1, x0, x1 => s0c (s1 k) some x0 x1
def s1 : Nat → S1 Int
 | 0, _ => none
 | k + 1, x0 => s1c (s2 k) some x0
def s2 : Nat → S2 Int
 | 0, _, _ => none
 | k + 1, x0, x1 => s2c (r08_letter.f k) (s3 k) some x0 x1
def s3 : Nat → S3 Int
 | 0, _, _, _ => none
 | k + 1, x0, x1, x2 => s3c (s4 k) some x0 x1 x2
def s4 : Nat → S4 Int
 | 0, _, _ => none
 | k + 1, x0, x1 => s4c (s2 k) some x0 x1
end
def f (k : Nat) (a0 : ByteArray) : Option Int := c (r08_letter.f k) (s0 k) some a0
noncomputable abbrev E (k : Nat) : FEnv := env (r08_letter.f k) (s0 k) (s1 k) (s2 k) (s3 k) (s4 k)
theorem hE (k : Nat) : EnvOK (E k).toEnv := ctsOK (Lc (r08_letter.ok k) L0)
theorem sk : ∀ k, ∀ s ∈ [sg0 (s0 k), sg1 (s1 k), sg2 (s2 k), sg3 (s3 k), sg4 (s4 k)], SegB prog f89 0 s
 | 0 => (Lc (sn (Lc (fun _ _ => rfl) L0)) (Lc (sn (Lc (fun _ _ => rfl) L0)) (Lc (sn (Lc (fun _ _ => rfl) L0)) (Lc (sn (Lc (fun _ _ => rfl) L0)) (Lc (sn (Lc (fun _ _ => rfl) L0)) L0)))))
 | k + 1 => (Lc (sg_ok (hE k) (sk k) (Lc s0_ev L0)) (Lc (sg_ok (hE k) (sk k) (Lc s1_ev L0)) (Lc (sg_ok (hE k) (sk k) (Lc s2_ev L0)) (Lc (sg_ok (hE k) (sk k) (Lc s3_ev L0)) (Lc (sg_ok (hE k) (sk k) (Lc s4_ev L0)) L0)))))
theorem ok (k : Nat) : CtOK prog 89 (ct (f k)) := fn_ok func89 rfl (by decide) (hE k) (sk k) (Lc ev L0)
end r08_Check
namespace r37_names
abbrev R : Type := ByteArray × Int
def e (r : R) : Res := ⟨.tup [(.one (.d .str r.1)), (.one (.d (.int .i64) r.2))], []⟩
abbrev T (δ : Type) : Type := (List ByteArray) → Option δ
abbrev A {δ : Type} (g : T δ) : Arm δ := ⟨[.d (.sl .str)], [], fun x y => g x.1⟩
abbrev G : Type := T R
def ct (g : G) : Ct := mkCt 0 [] [A g] e
abbrev S0 (δ : Type) : Type := (List ByteArray) → ByteArray → Int → Option δ
abbrev A_0 {δ : Type} (s : S0 δ) : Arm δ := ⟨[.d (.sl .str), .d .str, .d (.int .i64)], [], fun x y => s x.1 x.2.1 x.2.2.1⟩
def sg0 (s : S0 R) : Seg := mkSg [4, 1, 0, 1, 1] [] [0, 4, 5] [A_0 s] e
section
variable {β : Type} (g89 : r08_Check.G) (s0 : S0 R)
noncomputable abbrev env : FEnv := mkEnv prog f66 [(89, r08_Check.ct g89)] 0 [] [sg0 s0]
def c (ret : R → Option β) (a0 : List ByteArray) : Option β := ((s0 a0 (ByteArray.mk (List.toArray [])) (0 : Int)).bind ret)
def s0c (ret : R → Option β) (x0 : List ByteArray) (x1 : ByteArray) (x2 : Int) : Option β := (bif (decide (x2 < (x0.length : Int))) then (bif ((decide ((0 : Int) ≤ x2)) && (decide (x2 < (x0.length : Int)))) then ((g89 (elem Ty.str x0 x2)).bind fun r0 => (bif (r0 != (0 : Int)) then (ret ((ByteArray.mk (List.toArray [])), r0)) else (bif ((decide (x1.size ≤ (4611686018427387903 : Nat))) && true) then (bif ((decide ((0 : Int) ≤ x2)) && (decide (x2 < (x0.length : Int)))) then (bif ((decide ((ByteArray.size (x1 ++ (ByteArray.mk (List.toArray [32])))) ≤ (4611686018427387903 : Nat))) && (decide ((ByteArray.size (elem Ty.str x0 x2)) ≤ (4611686018427387903 : Nat)))) then ((s0 x0 ((x1 ++ (ByteArray.mk (List.toArray [32]))) ++ (elem Ty.str x0 x2)) (IntKind.wrap .i64 (x2 + (1 : Int)))).bind ret) else none) else none) else none))) else none) else (ret (x1, (0 : Int))))
variable {g89} {s0}
theorem ev : EvA (env g89 s0) [] [0] e (A (c s0 some)) := fun x y => Eq.trans (b := (A (c s0 fun r => some (e r))).G x y) (by kernel_rfl) (by simp only [A, c, bo, so, oa, os, on, ofs])
theorem s0_ev : EvA (env g89 s0) [4, 1, 0, 1, 1] [0, 4, 5] e (A_0 (s0c g89 s0 some)) := fun x y => Eq.trans (b := (A_0 (s0c g89 s0 fun r => some (e r))).G x y) (by kernel_rfl) (by simp only [A_0, s0c, bo, so, oa, os, on, ofs])
end
def s0 : Nat → S0 R
 | 0, _, _, _ => none
 | k + 1, x0, x1, x2 => s0c (r08_Check.f k) (s0 k) some x0 x1 x2
def f (k : Nat) (a0 : List ByteArray) : Option R := c (s0 k) some a0
noncomputable abbrev E (k : Nat) : FEnv := env (r08_Check.f k) (s0 k)
theorem hE (k : Nat) : EnvOK (E k).toEnv := ctsOK (Lc (r08_Check.ok k) L0)
theorem sk : ∀ k, ∀ s ∈ [sg0 (s0 k)], SegB prog f66 0 s
 | 0 => (Lc (sn (Lc (fun _ _ => rfl) L0)) L0)
 | k + 1 => (Lc (sg_ok (hE k) (sk k) (Lc s0_ev L0)) L0)
theorem ok (k : Nat) : CtOK prog 66 (ct (f k)) := fn_ok func66 rfl (by decide) (hE k) (sk k) (Lc ev L0)
end r37_names
namespace r02_exponent
def e (r : Int) : Res := ⟨.v (.one (.d (.int .i64) r)), []⟩
abbrev T (δ : Type) : Type := Int → Option δ
abbrev A {δ : Type} (g : T δ) : Arm δ := ⟨[.d (.int .u64)], [], fun x y => g x.1⟩
abbrev G : Type := T Int
def ct (g : G) : Ct := mkCt 0 [] [A g] e
section
variable {β : Type} 
noncomputable abbrev env : FEnv := mkEnv prog f135 [] 0 [] []
def c (ret : Int → Option β) (a0 : Int) : Option β := (ret ((IntKind.wrap .i64 (IntKind.wrap .u64 ((BitVec.toNat ((BitVec.ofInt (64 : Nat) (Int.fdiv a0 (4503599627370496 : Int))) &&& (BitVec.ofInt (64 : Nat) (2047 : Int)))) : Int)))))
theorem ev : EvA (env) [] [0] e (A (c some)) := fun x y => Eq.trans (b := (A (c fun r => some (e r))).G x y) (by kernel_rfl) (by simp only [A, c, bo, so, oa, os, on, ofs])
end
def f (k : Nat) (a0 : Int) : Option Int := c  some a0
noncomputable abbrev E (k : Nat) : FEnv := env  
theorem hE (k : Nat) : EnvOK (E k).toEnv := ctsOK L0
theorem ok (k : Nat) : CtOK prog 135 (ct (f k)) := fn_ok func135 rfl (by decide) (hE k) L0 (Lc ev L0)
end r02_exponent
namespace r02_fraction
def e (r : Int) : Res := ⟨.v (.one (.d (.int .u64) r)), []⟩
abbrev T (δ : Type) : Type := Int → Option δ
abbrev A {δ : Type} (g : T δ) : Arm δ := ⟨[.d (.int .u64)], [], fun x y => g x.1⟩
abbrev G : Type := T Int
def ct (g : G) : Ct := mkCt 0 [] [A g] e
section
variable {β : Type} 
noncomputable abbrev env : FEnv := mkEnv prog f136 [] 0 [] []
def c (ret : Int → Option β) (a0 : Int) : Option β := (ret ((IntKind.wrap .u64 ((BitVec.toNat ((BitVec.ofInt (64 : Nat) a0) &&& (BitVec.ofInt (64 : Nat) (4503599627370495 : Int)))) : Int))))
theorem ev : EvA (env) [] [0] e (A (c some)) := fun x y => Eq.trans (b := (A (c fun r => some (e r))).G x y) (by kernel_rfl) (by simp only [A, c, bo, so, oa, os, on, ofs])
end
def f (k : Nat) (a0 : Int) : Option Int := c  some a0
noncomputable abbrev E (k : Nat) : FEnv := env  
theorem hE (k : Nat) : EnvOK (E k).toEnv := ctsOK L0
theorem ok (k : Nat) : CtOK prog 136 (ct (f k)) := fn_ok func136 rfl (by decide) (hE k) L0 (Lc ev L0)
end r02_fraction
namespace r02_Class
def e (r : Int) : Res := ⟨.v (.one (.d (.int .i64) r)), []⟩
abbrev T (δ : Type) : Type := Int → Option δ
abbrev A {δ : Type} (g : T δ) : Arm δ := ⟨[.d (.int .u64)], [], fun x y => g x.1⟩
abbrev G : Type := T Int
def ct (g : G) : Ct := mkCt 0 [] [A g] e
abbrev S0 (δ : Type) : Type := Int → Bool → Option δ
abbrev A_0 {δ : Type} (s : S0 δ) : Arm δ := ⟨[.d (.int .u64), .d .bool], [], fun x y => s x.1 x.2.1⟩
def sg0 (s : S0 Int) : Seg := mkSg [1, 4, 0, 1] [] [0, 3] [A_0 s] e
section
variable {β : Type} (g135 : r02_exponent.G) (g136 : r02_fraction.G) (s0 : S0 Int)
noncomputable abbrev env : FEnv := mkEnv prog f123 [(135, r02_exponent.ct g135), (136, r02_fraction.ct g136)] 0 [] [sg0 s0]
def c (ret : Int → Option β) (a0 : Int) : Option β := ((g135 a0).bind fun r0 => (bif (r0 == (2047 : Int)) then ((g136 a0).bind fun r1 => ((s0 a0 (r1 != (0 : Int))).bind ret)) else ((s0 a0 false).bind ret)))
def s0c (ret : Int → Option β) (x0 : Int) (x1 : Bool) : Option β := (bif x1 then (ret ((1 : Int))) else ((g135 x0).bind fun r0 => (bif (r0 == (2047 : Int)) then (ret ((2 : Int))) else ((g135 x0).bind fun r1 => (bif (r1 == (0 : Int)) then ((g136 x0).bind fun r2 => (bif (r2 == (0 : Int)) then (ret ((3 : Int))) else ((g135 x0).bind fun r3 => (bif (r3 == (0 : Int)) then (ret ((4 : Int))) else (ret ((5 : Int))))))) else ((g135 x0).bind fun r4 => (bif (r4 == (0 : Int)) then (ret ((4 : Int))) else (ret ((5 : Int))))))))))
variable {g135} {g136} {s0}
theorem ev : EvA (env g135 g136 s0) [] [0] e (A (c g135 g136 s0 some)) := fun x y => Eq.trans (b := (A (c g135 g136 s0 fun r => some (e r))).G x y) (by kernel_rfl) (by simp only [A, c, bo, so, oa, os, on, ofs])
theorem s0_ev : EvA (env g135 g136 s0) [1, 4, 0, 1] [0, 3] e (A_0 (s0c g135 g136 some)) := fun x y => Eq.trans (b := (A_0 (s0c g135 g136 fun r => some (e r))).G x y) (by kernel_rfl) (by simp only [A_0, s0c, bo, so, oa, os, on, ofs])
end
def s0 : Nat → S0 Int
 | 0, _, _ => none
 | k + 1, x0, x1 => s0c (r02_exponent.f k) (r02_fraction.f k) some x0 x1
def f (k : Nat) (a0 : Int) : Option Int := c (r02_exponent.f k) (r02_fraction.f k) (s0 k) some a0
noncomputable abbrev E (k : Nat) : FEnv := env (r02_exponent.f k) (r02_fraction.f k) (s0 k)
theorem hE (k : Nat) : EnvOK (E k).toEnv := ctsOK (Lc (r02_exponent.ok k) (Lc (r02_fraction.ok k) L0))
theorem sk : ∀ k, ∀ s ∈ [sg0 (s0 k)], SegB prog f123 0 s
 | 0 => (Lc (sn (Lc (fun _ _ => rfl) L0)) L0)
 | k + 1 => (Lc (sg_ok (hE k) (sk k) (Lc s0_ev L0)) L0)
theorem ok (k : Nat) : CtOK prog 123 (ct (f k)) := fn_ok func123 rfl (by decide) (hE k) (sk k) (Lc ev L0)
end r02_Class
namespace r02_Canon
def e (r : Int) : Res := ⟨.v (.one (.d (.int .u64) r)), []⟩
abbrev T (δ : Type) : Type := Int → Option δ
abbrev A {δ : Type} (g : T δ) : Arm δ := ⟨[.d (.int .u64)], [], fun x y => g x.1⟩
abbrev G : Type := T Int
def ct (g : G) : Ct := mkCt 0 [] [A g] e
section
variable {β : Type} (g123 : r02_Class.G)
noncomputable abbrev env : FEnv := mkEnv prog f110 [(123, r02_Class.ct g123)] 0 [] []
def c (ret : Int → Option β) (a0 : Int) : Option β := ((g123 a0).bind fun r0 => (bif (r0 == (1 : Int)) then (ret ((9221120237041090560 : Int))) else (ret (a0))))
variable {g123}
theorem ev : EvA (env g123) [] [0] e (A (c g123 some)) := fun x y => Eq.trans (b := (A (c g123 fun r => some (e r))).G x y) (by kernel_rfl) (by simp only [A, c, bo, so, oa, os, on, ofs])
end
def f (k : Nat) (a0 : Int) : Option Int := c (r02_Class.f k) some a0
noncomputable abbrev E (k : Nat) : FEnv := env (r02_Class.f k) 
theorem hE (k : Nat) : EnvOK (E k).toEnv := ctsOK (Lc (r02_Class.ok k) L0)
theorem ok (k : Nat) : CtOK prog 110 (ct (f k)) := fn_ok func110 rfl (by decide) (hE k) L0 (Lc ev L0)
end r02_Canon
namespace r01_lead
abbrev R : Type := Int × Int
def e (r : R) : Res := ⟨.tup [(.one (.d (.int .i64) r.1)), (.one (.d (.int .i64) r.2))], []⟩
abbrev T (δ : Type) : Type := Int → Option δ
abbrev A {δ : Type} (g : T δ) : Arm δ := ⟨[.d (.int .i64)], [], fun x y => g x.1⟩
abbrev G : Type := T R
def ct (g : G) : Ct := mkCt 0 [] [A g] e
abbrev S0 (δ : Type) : Type := Int → Bool → Option δ
abbrev A_0 {δ : Type} (s : S0 δ) : Arm δ := ⟨[.d (.int .i64), .d .bool], [], fun x y => s x.1 x.2.1⟩
abbrev S1 (δ : Type) : Type := Int → Bool → Option δ
abbrev A_1 {δ : Type} (s : S1 δ) : Arm δ := ⟨[.d (.int .i64), .d .bool], [], fun x y => s x.1 x.2.1⟩
def sg0 (s : S0 R) : Seg := mkSg [1, 3, 1, 4, 0, 1] [] [0, 8] [A_0 s] e
def sg1 (s : S1 R) : Seg := mkSg [1, 3, 1, 3, 1, 4, 0, 1] [] [0, 17] [A_1 s] e
section
variable {β : Type} (s0 : S0 R) (s1 : S1 R)
noncomputable abbrev env : FEnv := mkEnv prog f141 [] 0 [] [sg0 s0, sg1 s1]
def c (ret : R → Option β) (a0 : Int) : Option β := (bif (decide (a0 < (128 : Int))) then (ret ((1 : Int), a0)) else (bif (decide (a0 ≥ (192 : Int))) then ((s0 a0 (decide (a0 < (224 : Int)))).bind ret) else ((s0 a0 false).bind ret)))
def s0c (ret : R → Option β) (x0 : Int) (x1 : Bool) : Option β := (bif x1 then (ret ((2 : Int), (IntKind.wrap .i64 (x0 - (192 : Int))))) else (bif (decide (x0 ≥ (224 : Int))) then ((s1 x0 (decide (x0 < (240 : Int)))).bind ret) else ((s1 x0 false).bind ret)))
def s1c (ret : R → Option β) (x0 : Int) (x1 : Bool) : Option β := (bif x1 then (ret ((3 : Int), (IntKind.wrap .i64 (x0 - (224 : Int))))) else (bif (decide (x0 ≥ (240 : Int))) then (bif (decide (x0 < (248 : Int))) then (ret ((4 : Int), (IntKind.wrap .i64 (x0 - (240 : Int))))) else (ret ((0 : Int), (0 : Int)))) else (ret ((0 : Int), (0 : Int)))))
variable {s0} {s1}
theorem ev : EvA (env s0 s1) [] [0] e (A (c s0 some)) := fun x y => Eq.trans (b := (A (c s0 fun r => some (e r))).G x y) (by kernel_rfl) (by simp only [A, c, bo, so, oa, os, on, ofs])
theorem s0_ev : EvA (env s0 s1) [1, 3, 1, 4, 0, 1] [0, 8] e (A_0 (s0c s1 some)) := fun x y => Eq.trans (b := (A_0 (s0c s1 fun r => some (e r))).G x y) (by kernel_rfl) (by simp only [A_0, s0c, bo, so, oa, os, on, ofs])
theorem s1_ev : EvA (env s0 s1) [1, 3, 1, 3, 1, 4, 0, 1] [0, 17] e (A_1 (s1c some)) := fun x y => Eq.trans (b := (A_1 (s1c fun r => some (e r))).G x y) (by kernel_rfl) (by simp only [A_1, s1c, bo, so, oa, os, on, ofs])
end
mutual
def s0 : Nat → S0 R
 | 0, _, _ => none
 | k + 1, x0, x1 => s0c (s1 k) some x0 x1
def s1 : Nat → S1 R
 | 0, _, _ => none
 | k + 1, x0, x1 => s1c  some x0 x1
end
def f (k : Nat) (a0 : Int) : Option R := c (s0 k) some a0
noncomputable abbrev E (k : Nat) : FEnv := env  (s0 k) (s1 k)
theorem hE (k : Nat) : EnvOK (E k).toEnv := ctsOK L0
theorem sk : ∀ k, ∀ s ∈ [sg0 (s0 k), sg1 (s1 k)], SegB prog f141 0 s
 | 0 => (Lc (sn (Lc (fun _ _ => rfl) L0)) (Lc (sn (Lc (fun _ _ => rfl) L0)) L0))
 | k + 1 => (Lc (sg_ok (hE k) (sk k) (Lc s0_ev L0)) (Lc (sg_ok (hE k) (sk k) (Lc s1_ev L0)) L0))
theorem ok (k : Nat) : CtOK prog 141 (ct (f k)) := fn_ok func141 rfl (by decide) (hE k) (sk k) (Lc ev L0)
end r01_lead
end Go.Proofs.YtimadphjdkjgaaaGreatDoor.Aev
