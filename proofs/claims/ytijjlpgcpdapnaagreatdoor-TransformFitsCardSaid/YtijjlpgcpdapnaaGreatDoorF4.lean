import Derived.Test.YtijjlpgcpdapnaaGreatDoorTys
import Derived.Test.YtijjlpgcpdapnaaGreatDoorProg
import Derived.Laws.Externs
import Derived.Lib.Bytealg
import Derived.Test.YtijjlpgcpdapnaaGreatDoorF1
import Derived.Test.YtijjlpgcpdapnaaGreatDoorF3
import Derived.Test.YtijjlpgcpdapnaaGreatDoorFloatInt
/- By a program of this session (AEV): functions of the program as plain functions, and that the machine does what they say. -/
namespace Go.Proofs.YtijjlpgcpdapnaaGreatDoor.Aev
set_option linter.unusedVariables false
set_option linter.unusedSimpArgs false
set_option maxRecDepth 100000
set_option maxHeartbeats 4000000
open Go Go.Proofs.Tryz
namespace convert_Digits
def e (r : ByteArray) : Res := ⟨.v (.one (.d .str r)), []⟩
abbrev T (δ : Type) : Type := Int → Option δ
abbrev A {δ : Type} (g : T δ) : Arm δ := ⟨[.d (.int .i64)], [], fun x y => g x.1⟩
abbrev G : Type := T ByteArray
def ct (g : G) : Ct := mkCt 0 [] [A g] e
abbrev S0 (δ : Type) : Type := Int → Int → Option δ
abbrev A_0 {δ : Type} (s : S0 δ) : Arm δ := ⟨[.d (.int .i64), .d (.int .u64)], [], fun x y => s x.1 x.2.1⟩
abbrev S1 (δ : Type) : Type := Int → Int → Int → (List Int) → Option δ
abbrev A_1 {δ : Type} (s : S1 δ) : Arm δ := ⟨[.d (.int .i64), .d (.int .u64), .k (.arr 0 20), .d (.int .i64)], [.own (.int .u8) true], fun x y => s x.1 x.2.1 x.2.2.2.1 y.1⟩
abbrev S2 (δ : Type) : Type := Int → Int → Int → Bool → (List Int) → Option δ
abbrev A_2 {δ : Type} (s : S2 δ) : Arm δ := ⟨[.d (.int .i64), .d (.int .u64), .k (.arr 0 20), .d (.int .i64), .d .bool], [.own (.int .u8) true], fun x y => s x.1 x.2.1 x.2.2.2.1 x.2.2.2.2.1 y.1⟩
abbrev S3 (δ : Type) : Type := Int → Int → Int → (List Int) → Option δ
abbrev A_3 {δ : Type} (s : S3 δ) : Arm δ := ⟨[.d (.int .i64), .d (.int .u64), .k (.arr 0 20), .d (.int .i64)], [.own (.int .u8) true], fun x y => s x.1 x.2.1 x.2.2.2.1 y.1⟩
def sg0 (s : S0 ByteArray) : Seg := mkSg [1, 1, 1] [] [0, 3] [A_0 s] e
def sg1 (s : S1 ByteArray) : Seg := mkSg [4, 0, 1, 1, 1, 1, 1] [] [0, 3, 4, 5] [A_1 s] e
def sg2 (s : S2 ByteArray) : Seg := mkSg [1, 0, 5, 4, 0, 1, 1, 1, 1, 1] [] [0, 3, 4, 5, 17] [A_2 s] e
def sg3 (s : S3 ByteArray) : Seg := mkSg [1, 5, 4, 0, 1, 1, 1, 1, 1] [] [0, 3, 4, 5] [A_3 s] e
section
variable {β : Type} (s0 : S0 ByteArray) (s1 : S1 ByteArray) (s2 : S2 ByteArray) (s3 : S3 ByteArray)
noncomputable abbrev env : FEnv := mkEnv prog f81 [] 0 [] [sg0 s0, sg1 s1, sg2 s2, sg3 s3]
def c (ret : ByteArray → Option β) (a0 : Int) : Option β := (bif (decide (a0 < (0 : Int))) then ((s0 a0 (IntKind.wrap .u64 ((0 : Int) - (IntKind.wrap .u64 a0)))).bind ret) else ((s0 a0 (IntKind.wrap .u64 a0)).bind ret))
def s0c (ret : ByteArray → Option β) (x0 x1 : Int) : Option β := ((s1 x0 x1 (20 : Int) [(0 : Int), (0 : Int), (0 : Int), (0 : Int), (0 : Int), (0 : Int), (0 : Int), (0 : Int), (0 : Int), (0 : Int), (0 : Int), (0 : Int), (0 : Int), (0 : Int), (0 : Int), (0 : Int), (0 : Int), (0 : Int), (0 : Int), (0 : Int)]).bind ret)
def s1c (ret : ByteArray → Option β) (x0 x1 x2 : Int) (x3 : List Int) : Option β := (bif (x2 == (20 : Int)) then ((s2 x0 x1 x2 true x3).bind ret) else ((s2 x0 x1 x2 (decide (x1 > (0 : Int))) x3).bind ret))
def s2c (ret : ByteArray → Option β) (x0 x1 x2 : Int) (x3 : Bool) (x4 : List Int) : Option β := (bif x3 then ((s3 x0 x1 x2 x4).bind ret) else (bif (decide (x0 < (0 : Int))) then (bif ((decide ((0 : Int) ≤ (IntKind.wrap .i64 (x2 - (1 : Int))))) && (decide ((IntKind.wrap .i64 (x2 - (1 : Int))) < (20 : Int)))) then (bif (((decide ((0 : Int) ≤ (IntKind.wrap .i64 (x2 - (1 : Int))))) && (decide ((IntKind.wrap .i64 (x2 - (1 : Int))) ≤ (20 : Int)))) && true) then (ret ((ByteArray.mk (List.toArray (List.map (fun n => (UInt8.ofNat (Int.toNat n))) (List.take ((20 : Nat) - (Int.toNat (IntKind.wrap .i64 (x2 - (1 : Int))))) (List.drop (Int.toNat (IntKind.wrap .i64 (x2 - (1 : Int)))) (List.set x4 (Int.toNat (IntKind.wrap .i64 (x2 - (1 : Int)))) (45 : Int))))))))) else none) else none) else (bif (((decide ((0 : Int) ≤ x2)) && (decide (x2 ≤ (20 : Int)))) && true) then (ret ((ByteArray.mk (List.toArray (List.map (fun n => (UInt8.ofNat (Int.toNat n))) (List.take ((20 : Nat) - (Int.toNat x2)) (List.drop (Int.toNat x2) x4))))))) else none)))
def s3c (ret : ByteArray → Option β) (x0 x1 x2 : Int) (x3 : List Int) : Option β := (bif ((decide ((0 : Int) ≤ (IntKind.wrap .i64 (x2 - (1 : Int))))) && (decide ((IntKind.wrap .i64 (x2 - (1 : Int))) < (20 : Int)))) then ((s1 x0 (IntKind.wrap .u64 (Int.tdiv x1 (10 : Int))) (IntKind.wrap .i64 (x2 - (1 : Int))) (List.set x3 (Int.toNat (IntKind.wrap .i64 (x2 - (1 : Int)))) (IntKind.wrap .u8 (IntKind.wrap .u64 ((48 : Int) + (Int.tmod x1 (10 : Int))))))).bind ret) else none)
variable {s0} {s1} {s2} {s3}
theorem ev : EvA (env s0 s1 s2 s3) [] [0] e (A (c s0 some)) := fun x y => Eq.trans (b := (A (c s0 fun r => some (e r))).G x y) (by kernel_rfl) (by simp only [A, c, bo, so, oa, os, on, ofs])
theorem s0_ev : EvA (env s0 s1 s2 s3) [1, 1, 1] [0, 3] e (A_0 (s0c s1 some)) := fun x y => Eq.trans (b := (A_0 (s0c s1 fun r => some (e r))).G x y) (by kernel_rfl) (by simp only [A_0, s0c, bo, so, oa, os, on, ofs])
theorem s1_ev : EvA (env s0 s1 s2 s3) [4, 0, 1, 1, 1, 1, 1] [0, 3, 4, 5] e (A_1 (s1c s2 some)) := fun x y => Eq.trans (b := (A_1 (s1c s2 fun r => some (e r))).G x y) (by kernel_rfl) (by simp only [A_1, s1c, bo, so, oa, os, on, ofs])
theorem s2_ev : EvA (env s0 s1 s2 s3) [1, 0, 5, 4, 0, 1, 1, 1, 1, 1] [0, 3, 4, 5, 17] e (A_2 (s2c s3 some)) := fun x y => Eq.trans (b := (A_2 (s2c s3 fun r => some (e r))).G x y) (by kernel_rfl) (by simp only [A_2, s2c, bo, so, oa, os, on, ofs])
theorem s3_ev : EvA (env s0 s1 s2 s3) [1, 5, 4, 0, 1, 1, 1, 1, 1] [0, 3, 4, 5] e (A_3 (s3c s1 some)) := fun x y => Eq.trans (b := (A_3 (s3c s1 fun r => some (e r))).G x y) (by kernel_rfl) (by simp only [A_3, s3c, bo, so, oa, os, on, ofs])
end
mutual
def s0 : Nat → S0 ByteArray
 | 0, _, _ => none
 | k + 1, x0, x1 => s0c (s1 k) some x0 x1
def s1 : Nat → S1 ByteArray
 | 0, _, _, _, _ => none
 | k + 1, x0, x1, x2, x3 => s1c (s2 k) some x0 x1 x2 x3
def s2 : Nat → S2 ByteArray
 | 0, _, _, _, _, _ => none
 | k + 1, x0, x1, x2, x3, x4 => s2c (s3 k) some x0 x1 x2 x3 x4
def s3 : Nat → S3 ByteArray
 | 0, _, _, _, _ => none
 | k + 1, x0, x1, x2, x3 => s3c (s1 k) some x0 x1 x2 x3
end
def f (k : Nat) (a0 : Int) : Option ByteArray := c (s0 k) some a0
noncomputable abbrev E (k : Nat) : FEnv := env  (s0 k) (s1 k) (s2 k) (s3 k)
theorem hE (k : Nat) : EnvOK (E k).toEnv := ctsOK L0
theorem sk : ∀ k, ∀ s ∈ [sg0 (s0 k), sg1 (s1 k), sg2 (s2 k), sg3 (s3 k)], SegB prog f81 0 s
 | 0 => (Lc (sn (Lc (fun _ _ => rfl) L0)) (Lc (sn (Lc (fun _ _ => rfl) L0)) (Lc (sn (Lc (fun _ _ => rfl) L0)) (Lc (sn (Lc (fun _ _ => rfl) L0)) L0))))
 | k + 1 => (Lc (sg_ok (hE k) (sk k) (Lc s0_ev L0)) (Lc (sg_ok (hE k) (sk k) (Lc s1_ev L0)) (Lc (sg_ok (hE k) (sk k) (Lc s2_ev L0)) (Lc (sg_ok (hE k) (sk k) (Lc s3_ev L0)) L0))))
theorem ok (k : Nat) : CtOK prog 81 (ct (f k)) := fn_ok func81 rfl (by decide) (hE k) (sk k) (Lc ev L0)
end convert_Digits
namespace convert_ofInt
abbrev R : Type := Int ⊕ (Int × Int × Int × ByteArray)
def e (r : R) : Res := Sum.elim (fun r =>  ⟨.v (.one (.fn 77 [(0, 0)])), [some (.box [(.d (.int .i64) r)])]⟩) (fun r =>  ⟨.v (.one (.fn 78 [(0, 0)])), [some (.box [(.d (.int .i64) r.1), (.d (.int .i64) r.2.1), (.d (.int .u64) r.2.2.1), (.d .str r.2.2.2)])]⟩) r
abbrev T (δ : Type) : Type := Int → Int → Option δ
abbrev A {δ : Type} (g : T δ) : Arm δ := ⟨[.d (.int .i64), .d (.int .i64)], [], fun x y => g x.1 x.2.1⟩
abbrev G : Type := T R
def ek {β : Type} (r : R) (K : Res → Option β) : Option β := Sum.elim (fun r => K ⟨.v (.one (.fn 77 [(0, 0)])), [some (.box [(.d (.int .i64) r)])]⟩) (fun r => K ⟨.v (.one (.fn 78 [(0, 0)])), [some (.box [(.d (.int .i64) r.1), (.d (.int .i64) r.2.1), (.d (.int .u64) r.2.2.1), (.d .str r.2.2.2)])]⟩) r
theorem hk {β : Type} (r : R) (K : Res → Option β) : ek r K = K (e r) := by rcases r with _ | _ <;> rfl
def ct (g : G) : Ct := mkCtS 0 [] [A g] e ek hk
section
variable {β : Type} (g52 : convert_refuse.G) (g53 : convert_give.G) (g79 : reals_FromInt.G) (g80 : convert_eight.G) (g81 : convert_Digits.G)
noncomputable abbrev env : FEnv := mkEnv prog f56 [(52, convert_refuse.ct g52), (53, convert_give.ct g53), (79, reals_FromInt.ct g79), (80, convert_eight.ct g80), (81, convert_Digits.ct g81)] 0 [] []
def c (ret : R → Option β) (a0 a1 : Int) : Option β := (bif (a1 == (1 : Int)) then (bif (a0 != (0 : Int)) then (bif (a0 != (1 : Int)) then ((g52 (6 : Int)).bind fun r0 => (ret (.inl (r0)))) else ((g53 a1 a0 (0 : Int) (ByteArray.mk (List.toArray []))).bind fun r1 => (ret (.inr (r1.1, r1.2.1, r1.2.2.1, r1.2.2.2))))) else ((g53 a1 a0 (0 : Int) (ByteArray.mk (List.toArray []))).bind fun r2 => (ret (.inr (r2.1, r2.2.1, r2.2.2.1, r2.2.2.2))))) else (bif (a1 == (3 : Int)) then ((g79 a0).bind fun r3 => (bif (!r3.2) then ((g52 (6 : Int)).bind fun r4 => (ret (.inl (r4)))) else ((g53 a1 (0 : Int) r3.1 (ByteArray.mk (List.toArray []))).bind fun r5 => (ret (.inr (r5.1, r5.2.1, r5.2.2.1, r5.2.2.2)))))) else (bif (a1 == (4 : Int)) then ((g80 (IntKind.wrap .u64 a0)).bind fun r6 => ((g53 a1 (0 : Int) (0 : Int) r6).bind fun r7 => (ret (.inr (r7.1, r7.2.1, r7.2.2.1, r7.2.2.2))))) else (bif (a1 == (5 : Int)) then ((g81 a0).bind fun r8 => ((g53 a1 (0 : Int) (0 : Int) r8).bind fun r9 => (ret (.inr (r9.1, r9.2.1, r9.2.2.1, r9.2.2.2))))) else ((g53 a1 a0 (0 : Int) (ByteArray.mk (List.toArray []))).bind fun r10 => (ret (.inr (r10.1, r10.2.1, r10.2.2.1, r10.2.2.2))))))))
variable {g52} {g53} {g79} {g80} {g81}
theorem ev : EvA (env g52 g53 g79 g80 g81) [] [0, 1] e (A (c g52 g53 g79 g80 g81 some)) := fun x y => Eq.trans (b := (A (c g52 g53 g79 g80 g81 fun r => some (e r))).G x y) (by kernel_rfl) (by simp only [A, c, bo, so, oa, os, on, ofs])
end
def f (k : Nat) (a0 a1 : Int) : Option R := c (convert_refuse.f k) (convert_give.f k) (reals_FromInt.f k) (convert_eight.f k) (convert_Digits.f k) some a0 a1
noncomputable abbrev E (k : Nat) : FEnv := env (convert_refuse.f k) (convert_give.f k) (reals_FromInt.f k) (convert_eight.f k) (convert_Digits.f k) 
theorem hE (k : Nat) : EnvOK (E k).toEnv := ctsOK (Lc (convert_refuse.ok k) (Lc (convert_give.ok k) (Lc (reals_FromInt.ok k) (Lc (convert_eight.ok k) (Lc (convert_Digits.ok k) L0)))))
theorem ok (k : Nat) : CtOK prog 56 (ct (f k)) := fn_okS hk (fn_ok func56 rfl (by decide) (hE k) L0 (Lc ev L0))
end convert_ofInt
namespace convert_ofBool
abbrev R : Type := (Int × Int × Int × ByteArray) ⊕ Int
def e (r : R) : Res := Sum.elim (fun r =>  ⟨.v (.one (.fn 78 [(0, 0)])), [some (.box [(.d (.int .i64) r.1), (.d (.int .i64) r.2.1), (.d (.int .u64) r.2.2.1), (.d .str r.2.2.2)])]⟩) (fun r =>  ⟨.v (.one (.fn 77 [(0, 0)])), [some (.box [(.d (.int .i64) r)])]⟩) r
abbrev T (δ : Type) : Type := Int → Int → Option δ
abbrev A {δ : Type} (g : T δ) : Arm δ := ⟨[.d (.int .i64), .d (.int .i64)], [], fun x y => g x.1 x.2.1⟩
abbrev G : Type := T R
def ek {β : Type} (r : R) (K : Res → Option β) : Option β := Sum.elim (fun r => K ⟨.v (.one (.fn 78 [(0, 0)])), [some (.box [(.d (.int .i64) r.1), (.d (.int .i64) r.2.1), (.d (.int .u64) r.2.2.1), (.d .str r.2.2.2)])]⟩) (fun r => K ⟨.v (.one (.fn 77 [(0, 0)])), [some (.box [(.d (.int .i64) r)])]⟩) r
theorem hk {β : Type} (r : R) (K : Res → Option β) : ek r K = K (e r) := by rcases r with _ | _ <;> rfl
def ct (g : G) : Ct := mkCtS 0 [] [A g] e ek hk
section
variable {β : Type} (g53 : convert_give.G) (g56 : convert_ofInt.G)
noncomputable abbrev env : FEnv := mkEnv prog f55 [(53, convert_give.ct g53), (56, convert_ofInt.ct g56)] 0 [] []
def c (ret : R → Option β) (a0 a1 : Int) : Option β := (bif (a1 == (5 : Int)) then (bif ((decide ((0 : Int) ≤ a0)) && (decide (a0 < (2 : Int)))) then ((g53 a1 (0 : Int) (0 : Int) (bif (decide (a0 = (0 : Int))) then (ByteArray.mk (List.toArray [102, 97, 108, 115, 101])) else (ByteArray.mk (List.toArray [116, 114, 117, 101])))).bind fun r0 => (ret (.inl (r0.1, r0.2.1, r0.2.2.1, r0.2.2.2)))) else none) else ((g56 a0 a1).bind fun r1 => (Sum.elim (fun r2 => (ret (.inr (r2)))) (fun r3 => (ret (.inl (r3.1, r3.2.1, r3.2.2.1, r3.2.2.2)))) r1)))
variable {g53} {g56}
theorem ev : EvA (env g53 g56) [] [0, 1] e (A (c g53 g56 some)) := fun x y => Eq.trans (b := (A (c g53 g56 fun r => some (e r))).G x y) (by kernel_rfl) (by simp only [A, c, bo, so, oa, os, on, ofs])
end
def f (k : Nat) (a0 a1 : Int) : Option R := c (convert_give.f k) (convert_ofInt.f k) some a0 a1
noncomputable abbrev E (k : Nat) : FEnv := env (convert_give.f k) (convert_ofInt.f k) 
theorem hE (k : Nat) : EnvOK (E k).toEnv := ctsOK (Lc (convert_give.ok k) (Lc (convert_ofInt.ok k) L0))
theorem ok (k : Nat) : CtOK prog 55 (ct (f k)) := fn_okS hk (fn_ok func55 rfl (by decide) (hE k) L0 (Lc ev L0))
end convert_ofBool
/-! ### math_archTrunc: function 123 (no body) -/
def math_archTrunc.ct (g : Nat → Option Nat) : Ct where
 nin := 0
 mv := []
 F := fun tvs blks {β} K => match tvs, blks with
  | [.v (.one (.d .flt a0))], [] => (g a0).bind fun r => K ⟨.v (.one (.d .flt r)), []⟩
  | _, _ => none
 legit := fun _ _ K _ h => by split at h; exact (legit1 K h :); simp at h
def math_archTrunc.f (k a0 : Nat) : Option Nat := if Fl.rung a0 < Fl.inf ∧ Fl.T (Fl.rung a0) < 18446744073709551616 then some (Ieee.double.word (Fl.neg a0) (Fl.near (Fl.T (Fl.rung a0)))) else none
theorem math_archTrunc.arch {n : Nat} (h : Fl.rung n < Fl.inf) (hT : Fl.T (Fl.rung n) < 18446744073709551616) (W : World) :
  (callFunc 123 #[.float .f64 n]).run Go.Proofs.Tryz.prog W = .ok (.value (.float .f64 (Ieee.double.word (Fl.neg n) (Fl.near (Fl.T (Fl.rung n)))))) W := by
 have h1 := run_callFunc_extern (P := Go.Proofs.Tryz.prog) (e := Extern.MathFloor.toIntegral "math.archTrunc" .zero) Go.Proofs.Tryz.func123 (by kernel_rfl) (by kernel_rfl) (by kernel_rfl) (by kernel_rfl) #[.float .f64 n] W
 rw [h1]
 have hi := Fl.integral_eq h
 obtain ⟨m, k, hr, _⟩ := Fl.read_num h
 have hd : FloatKind.f64.decode n = .number (Fl.neg n) m (-1074 + (k : Int)) := hr
 have hw : FloatKind.f64.encode ((Ieee.Datum.number (Fl.neg n) m (-1074 + (k : Int))).integral .zero) = Ieee.double.word (Fl.neg n) (Fl.near (Fl.T (Fl.rung n))) := by
  rw [← hr, hi]
  exact Fl.nearest_eq _ hT
 have e : (Extern.MathFloor.toIntegral "math.archTrunc" .zero #[.float .f64 n]).run Go.Proofs.Tryz.prog W = .ok (.float .f64 (Ieee.double.word (Fl.neg n) (Fl.near (Fl.T (Fl.rung n))))) W := by
  conv => lhs; arg 2; whnf
  rw [hd]
  simp only [hw]
  rfl
 rw [e]; rfl
theorem math_archTrunc.ok (k : Nat) : CtOK Go.Proofs.Tryz.prog 123 (math_archTrunc.ct (math_archTrunc.f k)) := by
 refine ct_extern ?_
 intro tvs blks res h
 simp only [math_archTrunc.ct] at h
 split at h
 ·rename_i a0
  simp only [math_archTrunc.f] at h
  split at h
  ·rename_i hc
   obtain ⟨c1, c2⟩ := hc
   simp only [os, Option.some.injEq] at h; subst h
   refine ⟨.float .f64 (Ieee.double.word (Fl.neg a0) (Fl.near (Fl.T (Fl.rung a0)))), ?_, rfl, rfl⟩
   intro w S ρ H vals hm hv
   obtain ⟨v0, m0, rfl, h0, hv⟩ := All2.cons_left hv
   cases All2.nil_left hv
   simp only [RepTV, RepVV, RepAV, Rd, List.cons.injEq, and_true] at h0
   subst h0
   exact ⟨math_archTrunc.arch c1 c2 w, rfl⟩
  ·simp at h
 ·simp at h


namespace math_Abs
def e (r : Nat) : Res := ⟨.v (.one (.d .flt r)), []⟩
abbrev T (δ : Type) : Type := Nat → Option δ
abbrev A {δ : Type} (g : T δ) : Arm δ := ⟨[.d .flt], [], fun x y => g x.1⟩
abbrev G : Type := T Nat
def ct (g : G) : Ct := mkCt 0 [] [A g] e
section
variable {β : Type} (g106 : Int → Option Nat) (g108 : Nat → Option Int)
noncomputable abbrev env : FEnv := mkEnv prog f130 [(106, math_Float64frombits.ct g106), (108, math_Float64bits.ct g108)] 0 [] []
def c (ret : Nat → Option β) (a0 : Nat) : Option β := ((g108 a0).bind fun r0 => ((g106 (IntKind.wrap .u64 ((BitVec.toNat ((BitVec.ofInt (64 : Nat) r0) &&& (Complement.complement (BitVec.ofInt (64 : Nat) (9223372036854775808 : Int))))) : Int))).bind fun r1 => (ret (r1))))
variable {g106} {g108}
theorem ev : EvA (env g106 g108) [] [0] e (A (c g106 g108 some)) := fun x y => Eq.trans (b := (A (c g106 g108 fun r => some (e r))).G x y) (by kernel_rfl) (by simp only [A, c, bo, so, oa, os, on, ofs])
end
def f (k a0 : Nat) : Option Nat := c (math_Float64frombits.f k) (math_Float64bits.f k) some a0
noncomputable abbrev E (k : Nat) : FEnv := env (math_Float64frombits.f k) (math_Float64bits.f k) 
theorem hE (k : Nat) : EnvOK (E k).toEnv := ctsOK (Lc (math_Float64frombits.ok k) (Lc (math_Float64bits.ok k) L0))
theorem ok (k : Nat) : CtOK prog 130 (ct (f k)) := fn_ok func130 rfl (by decide) (hE k) L0 (Lc ev L0)
end math_Abs
namespace math_Copysign
def e (r : Nat) : Res := ⟨.v (.one (.d .flt r)), []⟩
abbrev T (δ : Type) : Type := Nat → Nat → Option δ
abbrev A {δ : Type} (g : T δ) : Arm δ := ⟨[.d .flt, .d .flt], [], fun x y => g x.1 x.2.1⟩
abbrev G : Type := T Nat
def ct (g : G) : Ct := mkCt 0 [] [A g] e
section
variable {β : Type} (g106 : Int → Option Nat) (g108 : Nat → Option Int)
noncomputable abbrev env : FEnv := mkEnv prog f131 [(106, math_Float64frombits.ct g106), (108, math_Float64bits.ct g108)] 0 [] []
def c (ret : Nat → Option β) (a0 a1 : Nat) : Option β := ((g108 a0).bind fun r0 => ((g108 a1).bind fun r1 => ((g106 (IntKind.wrap .u64 ((BitVec.toNat ((BitVec.ofInt (64 : Nat) (IntKind.wrap .u64 ((BitVec.toNat ((BitVec.ofInt (64 : Nat) r0) &&& (Complement.complement (BitVec.ofInt (64 : Nat) (9223372036854775808 : Int))))) : Int))) ||| (BitVec.ofInt (64 : Nat) (IntKind.wrap .u64 ((BitVec.toNat ((BitVec.ofInt (64 : Nat) r1) &&& (BitVec.ofInt (64 : Nat) (9223372036854775808 : Int)))) : Int))))) : Int))).bind fun r2 => (ret (r2)))))
variable {g106} {g108}
theorem ev : EvA (env g106 g108) [] [0, 1] e (A (c g106 g108 some)) := fun x y => Eq.trans (b := (A (c g106 g108 fun r => some (e r))).G x y) (by kernel_rfl) (by simp only [A, c, bo, so, oa, os, on, ofs])
end
def f (k a0 a1 : Nat) : Option Nat := c (math_Float64frombits.f k) (math_Float64bits.f k) some a0 a1
noncomputable abbrev E (k : Nat) : FEnv := env (math_Float64frombits.f k) (math_Float64bits.f k) 
theorem hE (k : Nat) : EnvOK (E k).toEnv := ctsOK (Lc (math_Float64frombits.ok k) (Lc (math_Float64bits.ok k) L0))
theorem ok (k : Nat) : CtOK prog 131 (ct (f k)) := fn_ok func131 rfl (by decide) (hE k) L0 (Lc ev L0)
end math_Copysign
namespace math_trunc
def e (r : Nat) : Res := ⟨.v (.one (.d .flt r)), []⟩
abbrev T (δ : Type) : Type := Nat → Option δ
abbrev A {δ : Type} (g : T δ) : Arm δ := ⟨[.d .flt], [], fun x y => g x.1⟩
abbrev G : Type := T Nat
def ct (g : G) : Ct := mkCt 0 [] [A g] e
section
variable {β : Type} (g106 : Int → Option Nat) (g108 : Nat → Option Int) (g130 : math_Abs.G) (g131 : math_Copysign.G)
noncomputable abbrev env : FEnv := mkEnv prog f124 [(106, math_Float64frombits.ct g106), (108, math_Float64bits.ct g108), (130, math_Abs.ct g130), (131, math_Copysign.ct g131)] 0 [] []
def c (ret : Nat → Option β) (a0 : Nat) : Option β := ((g130 a0).bind fun r0 => (bif ((Ieee.Format.order (FloatKind.format FloatKind.f64) r0 (4607182418800017408 : Nat)) == (Option.some Ordering.lt)) then ((g131 (0 : Nat) a0).bind fun r1 => (ret (r1))) else ((g108 a0).bind fun r2 => (bif (decide ((IntKind.wrap .u64 ((IntKind.wrap .u64 ((BitVec.toNat ((BitVec.ofInt (64 : Nat) (Int.fdiv r2 (4503599627370496 : Int))) &&& (BitVec.ofInt (64 : Nat) (2047 : Int)))) : Int)) - (1023 : Int))) < (52 : Int))) then (bif (decide ((0 : Int) ≤ (IntKind.wrap .u64 ((52 : Int) - (IntKind.wrap .u64 ((IntKind.wrap .u64 ((BitVec.toNat ((BitVec.ofInt (64 : Nat) (Int.fdiv r2 (4503599627370496 : Int))) &&& (BitVec.ofInt (64 : Nat) (2047 : Int)))) : Int)) - (1023 : Int))))))) then ((g106 (IntKind.wrap .u64 ((BitVec.toNat ((BitVec.ofInt (64 : Nat) r2) &&& (Complement.complement (BitVec.ofInt (64 : Nat) (IntKind.wrap .u64 ((IntKind.wrap .u64 ((1 : Int) * ((2 : Int) ^ (Min.min (Int.toNat (IntKind.wrap .u64 ((52 : Int) - (IntKind.wrap .u64 ((IntKind.wrap .u64 ((BitVec.toNat ((BitVec.ofInt (64 : Nat) (Int.fdiv r2 (4503599627370496 : Int))) &&& (BitVec.ofInt (64 : Nat) (2047 : Int)))) : Int)) - (1023 : Int)))))) (64 : Nat))))) - (1 : Int))))))) : Int))).bind fun r3 => (ret (r3))) else none) else ((g106 r2).bind fun r4 => (ret (r4)))))))
variable {g106} {g108} {g130} {g131}
theorem ev : EvA (env g106 g108 g130 g131) [] [0] e (A (c g106 g108 g130 g131 some)) := fun x y => Eq.trans (b := (A (c g106 g108 g130 g131 fun r => some (e r))).G x y) (by kernel_rfl) (by simp only [A, c, bo, so, oa, os, on, ofs])
end
def f (k a0 : Nat) : Option Nat := c (math_Float64frombits.f k) (math_Float64bits.f k) (math_Abs.f k) (math_Copysign.f k) some a0
noncomputable abbrev E (k : Nat) : FEnv := env (math_Float64frombits.f k) (math_Float64bits.f k) (math_Abs.f k) (math_Copysign.f k) 
theorem hE (k : Nat) : EnvOK (E k).toEnv := ctsOK (Lc (math_Float64frombits.ok k) (Lc (math_Float64bits.ok k) (Lc (math_Abs.ok k) (Lc (math_Copysign.ok k) L0))))
theorem ok (k : Nat) : CtOK prog 124 (ct (f k)) := fn_ok func124 rfl (by decide) (hE k) L0 (Lc ev L0)
end math_trunc
namespace math_Trunc
def e (r : Nat) : Res := ⟨.v (.one (.d .flt r)), []⟩
abbrev T (δ : Type) : Type := Nat → Option δ
abbrev A {δ : Type} (g : T δ) : Arm δ := ⟨[.d .flt], [], fun x y => g x.1⟩
abbrev G : Type := T Nat
def ct (g : G) : Ct := mkCt 0 [] [A g] e
section
variable {β : Type} (g123 : Nat → Option Nat) (g124 : math_trunc.G)
noncomputable abbrev env : FEnv := mkEnv prog f109 [(123, math_archTrunc.ct g123), (124, math_trunc.ct g124)] 0 [] []
def c (ret : Nat → Option β) (a0 : Nat) : Option β := ((g123 a0).bind fun r0 => (ret (r0)))
variable {g123} {g124}
theorem ev : EvA (env g123 g124) [] [0] e (A (c g123 some)) := fun x y => Eq.trans (b := (A (c g123 fun r => some (e r))).G x y) (by kernel_rfl) (by simp only [A, c, bo, so, oa, os, on, ofs])
end
def f (k a0 : Nat) : Option Nat := c (math_archTrunc.f k) some a0
noncomputable abbrev E (k : Nat) : FEnv := env (math_archTrunc.f k) (math_trunc.f k) 
theorem hE (k : Nat) : EnvOK (E k).toEnv := ctsOK (Lc (math_archTrunc.ok k) (Lc (math_trunc.ok k) L0))
theorem ok (k : Nat) : CtOK prog 109 (ct (f k)) := fn_ok func109 rfl (by decide) (hE k) L0 (Lc ev L0)
end math_Trunc
namespace reals_ToInt
abbrev R : Type := Int × Bool
def e (r : R) : Res := ⟨.tup [(.one (.d (.int .i64) r.1)), (.one (.d .bool r.2))], []⟩
abbrev T (δ : Type) : Type := Int → Option δ
abbrev A {δ : Type} (g : T δ) : Arm δ := ⟨[.d (.int .u64)], [], fun x y => g x.1⟩
abbrev G : Type := T R
def ct (g : G) : Ct := mkCt 0 [] [A g] e
section
variable {β : Type} (g106 : Int → Option Nat) (g109 : math_Trunc.G)
noncomputable abbrev env : FEnv := mkEnv prog f82 [(106, math_Float64frombits.ct g106), (109, math_Trunc.ct g109)] 0 [] []
def c (ret : R → Option β) (a0 : Int) : Option β := ((g106 a0).bind fun r0 => (bif ((Ieee.Format.order (FloatKind.format FloatKind.f64) r0 r0) != (Option.some Ordering.eq)) then (ret ((0 : Int), false)) else (bif ((Ieee.Format.order (FloatKind.format FloatKind.f64) r0 (14114281232179134464 : Nat)) == (Option.some Ordering.lt)) then (ret ((0 : Int), false)) else (bif (((Ieee.Format.order (FloatKind.format FloatKind.f64) r0 (4890909195324358656 : Nat)) == (Option.some Ordering.gt)) || ((Ieee.Format.order (FloatKind.format FloatKind.f64) r0 (4890909195324358656 : Nat)) == (Option.some Ordering.eq))) then (ret ((0 : Int), false)) else ((g109 r0).bind fun r1 => (bif ((Ieee.Format.order (FloatKind.format FloatKind.f64) r0 r1) != (Option.some Ordering.eq)) then (ret ((0 : Int), false)) else (bif (((Option.isSome (Ieee.Datum.toInt Ieee.Toward.zero (FloatKind.decode FloatKind.f64 r0))) && (decide ((-9223372036854775808 : Int) ≤ (Option.getD (Ieee.Datum.toInt Ieee.Toward.zero (FloatKind.decode FloatKind.f64 r0)) (0 : Int))))) && (decide ((Option.getD (Ieee.Datum.toInt Ieee.Toward.zero (FloatKind.decode FloatKind.f64 r0)) (0 : Int)) ≤ (9223372036854775807 : Int)))) then (ret ((Option.getD (Ieee.Datum.toInt Ieee.Toward.zero (FloatKind.decode FloatKind.f64 r0)) (0 : Int)), true)) else none)))))))
variable {g106} {g109}
theorem ev : EvA (env g106 g109) [] [0] e (A (c g106 g109 some)) := fun x y => Eq.trans (b := (A (c g106 g109 fun r => some (e r))).G x y) (by kernel_rfl) (by simp only [A, c, bo, so, oa, os, on, ofs])
end
def f (k : Nat) (a0 : Int) : Option R := c (math_Float64frombits.f k) (math_Trunc.f k) some a0
noncomputable abbrev E (k : Nat) : FEnv := env (math_Float64frombits.f k) (math_Trunc.f k) 
theorem hE (k : Nat) : EnvOK (E k).toEnv := ctsOK (Lc (math_Float64frombits.ok k) (Lc (math_Trunc.ok k) L0))
theorem ok (k : Nat) : CtOK prog 82 (ct (f k)) := fn_ok func82 rfl (by decide) (hE k) L0 (Lc ev L0)
end reals_ToInt
namespace convert_ofReal
abbrev R : Type := (Int × Int × Int × ByteArray) ⊕ Int
def e (r : R) : Res := Sum.elim (fun r =>  ⟨.v (.one (.fn 78 [(0, 0)])), [some (.box [(.d (.int .i64) r.1), (.d (.int .i64) r.2.1), (.d (.int .u64) r.2.2.1), (.d .str r.2.2.2)])]⟩) (fun r =>  ⟨.v (.one (.fn 77 [(0, 0)])), [some (.box [(.d (.int .i64) r)])]⟩) r
abbrev T (δ : Type) : Type := Int → Int → Option δ
abbrev A {δ : Type} (g : T δ) : Arm δ := ⟨[.d (.int .u64), .d (.int .i64)], [], fun x y => g x.1 x.2.1⟩
abbrev G : Type := T R
def ek {β : Type} (r : R) (K : Res → Option β) : Option β := Sum.elim (fun r => K ⟨.v (.one (.fn 78 [(0, 0)])), [some (.box [(.d (.int .i64) r.1), (.d (.int .i64) r.2.1), (.d (.int .u64) r.2.2.1), (.d .str r.2.2.2)])]⟩) (fun r => K ⟨.v (.one (.fn 77 [(0, 0)])), [some (.box [(.d (.int .i64) r)])]⟩) r
theorem hk {β : Type} (r : R) (K : Res → Option β) : ek r K = K (e r) := by rcases r with _ | _ <;> rfl
def ct (g : G) : Ct := mkCtS 0 [] [A g] e ek hk
section
variable {β : Type} (g52 : convert_refuse.G) (g53 : convert_give.G) (g56 : convert_ofInt.G) (g80 : convert_eight.G) (g82 : reals_ToInt.G)
noncomputable abbrev env : FEnv := mkEnv prog f57 [(52, convert_refuse.ct g52), (53, convert_give.ct g53), (56, convert_ofInt.ct g56), (80, convert_eight.ct g80), (82, reals_ToInt.ct g82)] 0 [] []
def c (ret : R → Option β) (a0 a1 : Int) : Option β := (bif (a1 == (4 : Int)) then ((g80 a0).bind fun r0 => ((g53 a1 (0 : Int) (0 : Int) r0).bind fun r1 => (ret (.inl (r1.1, r1.2.1, r1.2.2.1, r1.2.2.2))))) else ((g82 a0).bind fun r2 => (bif (!r2.2) then ((g52 (6 : Int)).bind fun r3 => (ret (.inr (r3)))) else ((g56 r2.1 a1).bind fun r4 => (Sum.elim (fun r5 => (ret (.inr (r5)))) (fun r6 => (ret (.inl (r6.1, r6.2.1, r6.2.2.1, r6.2.2.2)))) r4)))))
variable {g52} {g53} {g56} {g80} {g82}
theorem ev : EvA (env g52 g53 g56 g80 g82) [] [0, 1] e (A (c g52 g53 g56 g80 g82 some)) := fun x y => Eq.trans (b := (A (c g52 g53 g56 g80 g82 fun r => some (e r))).G x y) (by kernel_rfl) (by simp only [A, c, bo, so, oa, os, on, ofs])
end
def f (k : Nat) (a0 a1 : Int) : Option R := c (convert_refuse.f k) (convert_give.f k) (convert_ofInt.f k) (convert_eight.f k) (reals_ToInt.f k) some a0 a1
noncomputable abbrev E (k : Nat) : FEnv := env (convert_refuse.f k) (convert_give.f k) (convert_ofInt.f k) (convert_eight.f k) (reals_ToInt.f k) 
theorem hE (k : Nat) : EnvOK (E k).toEnv := ctsOK (Lc (convert_refuse.ok k) (Lc (convert_give.ok k) (Lc (convert_ofInt.ok k) (Lc (convert_eight.ok k) (Lc (reals_ToInt.ok k) L0)))))
theorem ok (k : Nat) : CtOK prog 57 (ct (f k)) := fn_okS hk (fn_ok func57 rfl (by decide) (hE k) L0 (Lc ev L0))
end convert_ofReal
namespace convert_ofBytes
abbrev R : Type := Int ⊕ (Int × Int × Int × ByteArray)
def e (r : R) : Res := Sum.elim (fun r =>  ⟨.v (.one (.fn 77 [(0, 0)])), [some (.box [(.d (.int .i64) r)])]⟩) (fun r =>  ⟨.v (.one (.fn 78 [(0, 0)])), [some (.box [(.d (.int .i64) r.1), (.d (.int .i64) r.2.1), (.d (.int .u64) r.2.2.1), (.d .str r.2.2.2)])]⟩) r
abbrev T (δ : Type) : Type := ByteArray → Int → Option δ
abbrev A {δ : Type} (g : T δ) : Arm δ := ⟨[.d .str, .d (.int .i64)], [], fun x y => g x.1 x.2.1⟩
abbrev G : Type := T R
def ek {β : Type} (r : R) (K : Res → Option β) : Option β := Sum.elim (fun r => K ⟨.v (.one (.fn 77 [(0, 0)])), [some (.box [(.d (.int .i64) r)])]⟩) (fun r => K ⟨.v (.one (.fn 78 [(0, 0)])), [some (.box [(.d (.int .i64) r.1), (.d (.int .i64) r.2.1), (.d (.int .u64) r.2.2.1), (.d .str r.2.2.2)])]⟩) r
theorem hk {β : Type} (r : R) (K : Res → Option β) : ek r K = K (e r) := by rcases r with _ | _ <;> rfl
def ct (g : G) : Ct := mkCtS 0 [] [A g] e ek hk
abbrev S0 (δ : Type) : Type := ByteArray → Int → Bool → Option δ
abbrev A_0 {δ : Type} (s : S0 δ) : Arm δ := ⟨[.d .str, .d (.int .i64), .d .bool], [], fun x y => s x.1 x.2.1 x.2.2.1⟩
abbrev S1 (δ : Type) : Type := ByteArray → Int → Option δ
abbrev A_1 {δ : Type} (s : S1 δ) : Arm δ := ⟨[.d .str, .d (.int .i64)], [], fun x y => s x.1 x.2.1⟩
abbrev S2 (δ : Type) : Type := Int → Int → (List Int) → Int → Int → Option δ
abbrev A_2 {δ : Type} (s : S2 δ) : Arm δ := ⟨[.d (.int .i64), .d (.int .u64), .d (.sl (.int .u8)), .d (.int .i64), .d (.int .i64)], [], fun x y => s x.1 x.2.1 x.2.2.1 x.2.2.2.1 x.2.2.2.2.1⟩
def sg0 (s : S0 R) : Seg := mkSg [1, 4, 0, 1] [] [0, 1, 8] [A_0 s] e
def sg1 (s : S1 R) : Seg := mkSg [1, 1] [] [0, 1] [A_1 s] e
def sg2 (s : S2 R) : Seg := mkSg [4, 1, 0, 1, 1, 1] [] [1, 5, 30, 31, 32] [A_2 s] e
section
variable {β : Type} (g52 : convert_refuse.G) (g53 : convert_give.G) (g75 : reals_Canon.G) (g76 : utf_Valid.G) (s0 : S0 R) (s1 : S1 R) (s2 : S2 R)
noncomputable abbrev env : FEnv := mkEnv prog f58 [(52, convert_refuse.ct g52), (53, convert_give.ct g53), (75, reals_Canon.ct g75), (76, utf_Valid.ct g76)] 0 [] [sg0 s0, sg1 s1, sg2 s2]
def c (ret : R → Option β) (a0 : ByteArray) (a1 : Int) : Option β := (bif (a1 == (5 : Int)) then ((g76 a0).bind fun r0 => ((s0 a0 a1 (!r0)).bind ret)) else ((s0 a0 a1 false).bind ret))
def s0c (ret : R → Option β) (x0 : ByteArray) (x1 : Int) (x2 : Bool) : Option β := (bif x2 then ((g52 (7 : Int)).bind fun r0 => (ret (.inl (r0)))) else (bif (x1 == (5 : Int)) then ((g53 x1 (0 : Int) (0 : Int) x0).bind fun r1 => (ret (.inr (r1.1, r1.2.1, r1.2.2.1, r1.2.2.2)))) else (bif ((x0.size : Int) != (8 : Int)) then ((g52 (6 : Int)).bind fun r2 => (ret (.inl (r2)))) else ((s1 x0 x1).bind ret))))
def s1c (ret : R → Option β) (x0 : ByteArray) (x1 : Int) : Option β := ((s2 x1 (0 : Int) (List.map (fun b => ((UInt8.toNat b) : Int)) (Array.toList (ByteArray.data x0))) ((List.length (List.map (fun b => ((UInt8.toNat b) : Int)) (Array.toList (ByteArray.data x0)))) : Int) (0 : Int)).bind ret)
def s2c (ret : R → Option β) (x0 x1 : Int) (x2 : List Int) (x3 x4 : Int) : Option β := (bif (decide (x4 < x3)) then (bif ((decide ((0 : Int) ≤ x4)) && (decide (x4 < (x2.length : Int)))) then ((s2 x0 (IntKind.wrap .u64 ((BitVec.toNat ((BitVec.ofInt (64 : Nat) (IntKind.wrap .u64 (x1 * (256 : Int)))) ||| (BitVec.ofInt (64 : Nat) (IntKind.wrap .u64 (elem (Ty.int IntKind.u8) x2 x4))))) : Int)) x2 x3 (IntKind.wrap .i64 (x4 + (1 : Int)))).bind ret) else none) else (bif (x0 == (3 : Int)) then ((g75 x1).bind fun r0 => ((g53 x0 (0 : Int) r0 (ByteArray.mk (List.toArray []))).bind fun r1 => (ret (.inr (r1.1, r1.2.1, r1.2.2.1, r1.2.2.2))))) else ((g53 x0 (IntKind.wrap .i64 x1) (0 : Int) (ByteArray.mk (List.toArray []))).bind fun r2 => (ret (.inr (r2.1, r2.2.1, r2.2.2.1, r2.2.2.2))))))
variable {g52} {g53} {g75} {g76} {s0} {s1} {s2}
theorem ev : EvA (env g52 g53 g75 g76 s0 s1 s2) [] [0, 1] e (A (c g76 s0 some)) := fun x y => Eq.trans (b := (A (c g76 s0 fun r => some (e r))).G x y) (by kernel_rfl) (by simp only [A, c, bo, so, oa, os, on, ofs])
theorem s0_ev : EvA (env g52 g53 g75 g76 s0 s1 s2) [1, 4, 0, 1] [0, 1, 8] e (A_0 (s0c g52 g53 s1 some)) := fun x y => Eq.trans (b := (A_0 (s0c g52 g53 s1 fun r => some (e r))).G x y) (by kernel_rfl) (by simp only [A_0, s0c, bo, so, oa, os, on, ofs])
theorem s1_ev : EvA (env g52 g53 g75 g76 s0 s1 s2) [1, 1] [0, 1] e (A_1 (s1c s2 some)) := fun x y => Eq.trans (b := (A_1 (s1c s2 fun r => some (e r))).G x y) (by kernel_rfl) (by simp only [A_1, s1c, bo, so, oa, os, on, ofs])
theorem s2_ev : EvA (env g52 g53 g75 g76 s0 s1 s2) [4, 1, 0, 1, 1, 1] [1, 5, 30, 31, 32] e (A_2 (s2c g53 g75 s2 some)) := fun x y => Eq.trans (b := (A_2 (s2c g53 g75 s2 fun r => some (e r))).G x y) (by kernel_rfl) (by simp only [A_2, s2c, bo, so, oa, os, on, ofs])
end
mutual
def s0 : Nat → S0 R
 | 0, _, _, _ => none
 | k + 1, x0, x1, x2 => s0c (convert_refuse.f k) (convert_give.f k) (s1 k) some x0 x1 x2
def s1 : Nat → S1 R
 | 0, _, _ => none
 | k + 1, x0, x1 => s1c (s2 k) some x0 x1
def s2 : Nat → S2 R
 | 0, _, _, _, _, _ => none
 | k + 1, x0, x1, x2, x3, x4 => s2c (convert_give.f k) (reals_Canon.f k) (s2 k) some x0 x1 x2 x3 x4
end
def f (k : Nat) (a0 : ByteArray) (a1 : Int) : Option R := c (utf_Valid.f k) (s0 k) some a0 a1
noncomputable abbrev E (k : Nat) : FEnv := env (convert_refuse.f k) (convert_give.f k) (reals_Canon.f k) (utf_Valid.f k) (s0 k) (s1 k) (s2 k)
theorem hE (k : Nat) : EnvOK (E k).toEnv := ctsOK (Lc (convert_refuse.ok k) (Lc (convert_give.ok k) (Lc (reals_Canon.ok k) (Lc (utf_Valid.ok k) L0))))
theorem sk : ∀ k, ∀ s ∈ [sg0 (s0 k), sg1 (s1 k), sg2 (s2 k)], SegB prog f58 0 s
 | 0 => (Lc (sn (Lc (fun _ _ => rfl) L0)) (Lc (sn (Lc (fun _ _ => rfl) L0)) (Lc (sn (Lc (fun _ _ => rfl) L0)) L0)))
 | k + 1 => (Lc (sg_ok (hE k) (sk k) (Lc s0_ev L0)) (Lc (sg_ok (hE k) (sk k) (Lc s1_ev L0)) (Lc (sg_ok (hE k) (sk k) (Lc s2_ev L0)) L0)))
theorem ok (k : Nat) : CtOK prog 58 (ct (f k)) := fn_okS hk (fn_ok func58 rfl (by decide) (hE k) (sk k) (Lc ev L0))
end convert_ofBytes
end Go.Proofs.YtijjlpgcpdapnaaGreatDoor.Aev
