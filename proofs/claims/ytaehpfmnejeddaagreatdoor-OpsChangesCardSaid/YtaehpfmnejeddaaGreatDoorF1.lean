/- By a program of this session (AEV): functions of the program as plain functions, and that the machine does what they say. -/
import Derived.Test.YtaehpfmnejeddaaGreatDoorTys
import Derived.Test.YtaehpfmnejeddaaGreatDoorProg
import Derived.Laws.Externs
import Derived.Lib.Bytealg
namespace Go.Proofs.YtaehpfmnejeddaaGreatDoor.Aev
set_option linter.unusedVariables false
set_option linter.unusedSimpArgs false
set_option maxRecDepth 100000
set_option maxHeartbeats 4000000
open Go Go.Proofs.Tryz
namespace names_Check
def e (r : Int) : Res := ⟨.v (.one (.d (.int .i64) r)), []⟩
abbrev G : Type := ByteArray → Option Int
def ct (g : G) : Ct := mkCt 0 [] [⟨[.d .str], [], fun x y => g x.1⟩] e
abbrev S0 : Type := ByteArray → Bool → Option Int
abbrev S1 : Type := ByteArray → Option Int
abbrev S2 : Type := (List Int) → Int → Int → Option Int
abbrev S3 : Type := Int → Int → Bool → (List Int) → Int → Int → Option Int
abbrev S4 : Type := Int → Bool → Bool → (List Int) → Int → Int → Option Int
abbrev S5 : Type := (List Int) → Int → Int → Bool → Option Int
abbrev S6 : Type := (List Int) → Int → Int → Option Int
def sg0 (s : S0) : Seg := mkSg [1, 0, 1] [] [0, 13] [⟨[.d .str, .d .bool], [], fun x y => s x.1 x.2.1⟩] e
def sg1 (s : S1) : Seg := mkSg [1, 1] [] [0] [⟨[.d .str], [], fun x y => s x.1⟩] e
def sg2 (s : S2) : Seg := mkSg [4, 1, 0, 1, 1] [] [15, 16, 17] [⟨[.d (.sl (.int .u8)), .d (.int .i64), .d (.int .i64)], [], fun x y => s x.1 x.2.1 x.2.2.1⟩] e
def sg3 (s : S3) : Seg := mkSg [1, 1, 4, 0, 1, 1, 5, 4, 1, 0, 1, 1] [] [3, 4, 5, 15, 16, 17] [⟨[.d (.int .i64), .d (.int .u8), .d .bool, .d (.sl (.int .u8)), .d (.int .i64), .d (.int .i64)], [], fun x y => s x.1 x.2.1 x.2.2.1 x.2.2.2.1 x.2.2.2.2.1 x.2.2.2.2.2.1⟩] e
def sg4 (s : S4) : Seg := mkSg [1, 1, 1, 4, 0, 1, 1, 5, 4, 1, 0, 1, 1] [] [3, 5, 6, 15, 16, 17] [⟨[.d (.int .i64), .d .bool, .d .bool, .d (.sl (.int .u8)), .d (.int .i64), .d (.int .i64)], [], fun x y => s x.1 x.2.1 x.2.2.1 x.2.2.2.1 x.2.2.2.2.1 x.2.2.2.2.2.1⟩] e
def sg5 (s : S5) : Seg := mkSg [1, 1, 1, 1, 4, 0, 1, 1, 5, 4, 1, 0, 1, 1] [] [15, 16, 17, 47] [⟨[.d (.sl (.int .u8)), .d (.int .i64), .d (.int .i64), .d .bool], [], fun x y => s x.1 x.2.1 x.2.2.1 x.2.2.2.1⟩] e
def sg6 (s : S6) : Seg := mkSg [1, 1, 1, 5, 4, 1, 0, 1, 1] [] [15, 16, 17] [⟨[.d (.sl (.int .u8)), .d (.int .i64), .d (.int .i64)], [], fun x y => s x.1 x.2.1 x.2.2.1⟩] e
section
variable {β : Type} (s0 : S0) (s1 : S1) (s2 : S2) (s3 : S3) (s4 : S4) (s5 : S5) (s6 : S6)
noncomputable abbrev env : FEnv := mkEnv prog f110 [] 0 [] [sg0 s0, sg1 s1, sg2 s2, sg3 s3, sg4 s4, sg5 s5, sg6 s6]
def c (a0 : ByteArray) (ret : Int → Option β) : Option β := (bif ((ByteArray.toList a0) == (ByteArray.toList (ByteArray.mk (List.toArray [])))) then ((s0 a0 true).bind ret) else ((s0 a0 (decide (((ByteArray.size a0) : Int) > (16 : Int)))).bind ret))
def s0c (x0 : ByteArray) (x1 : Bool) (ret : Int → Option β) : Option β := (bif x1 then (ret ((8 : Int))) else ((s1 x0).bind ret))
def s1c (x0 : ByteArray) (ret : Int → Option β) : Option β := ((s2 (List.map (fun b => ((UInt8.toNat b) : Int)) (Array.toList (ByteArray.data x0))) ((List.length (List.map (fun b => ((UInt8.toNat b) : Int)) (Array.toList (ByteArray.data x0)))) : Int) (0 : Int)).bind ret)
def s2c (x0 : List Int) (x1 : Int) (x2 : Int) (ret : Int → Option β) : Option β := (bif (decide (x2 < x1)) then (bif ((decide ((0 : Int) ≤ x2)) && (decide (x2 < ((List.length x0) : Int)))) then (bif (decide ((elem (Ty.int IntKind.u8) x0 x2) ≥ (97 : Int))) then ((s3 x2 (elem (Ty.int IntKind.u8) x0 x2) (decide ((elem (Ty.int IntKind.u8) x0 x2) ≤ (122 : Int))) x0 x1 x2).bind ret) else ((s3 x2 (elem (Ty.int IntKind.u8) x0 x2) false x0 x1 x2).bind ret)) else none) else (ret ((0 : Int))))
def s3c (x0 : Int) (x1 : Int) (x2 : Bool) (x3 : List Int) (x4 : Int) (x5 : Int) (ret : Int → Option β) : Option β := (bif (decide (x1 ≥ (48 : Int))) then (bif (decide (x1 ≤ (57 : Int))) then ((s4 x0 x2 true x3 x4 x5).bind ret) else ((s4 x0 x2 (x1 == (95 : Int)) x3 x4 x5).bind ret)) else ((s4 x0 x2 (x1 == (95 : Int)) x3 x4 x5).bind ret))
def s4c (x0 : Int) (x1 : Bool) (x2 : Bool) (x3 : List Int) (x4 : Int) (x5 : Int) (ret : Int → Option β) : Option β := (bif (!x1) then (bif (x0 == (0 : Int)) then ((s5 x3 x4 x5 true).bind ret) else ((s5 x3 x4 x5 (!x2)).bind ret)) else ((s5 x3 x4 x5 false).bind ret))
def s5c (x0 : List Int) (x1 : Int) (x2 : Int) (x3 : Bool) (ret : Int → Option β) : Option β := (bif x3 then (ret ((8 : Int))) else ((s6 x0 x1 x2).bind ret))
def s6c (x0 : List Int) (x1 : Int) (x2 : Int) (ret : Int → Option β) : Option β := ((s2 x0 x1 (IntKind.wrap IntKind.i64 (x2 + (1 : Int)))).bind ret)
variable {s0} {s1} {s2} {s3} {s4} {s5} {s6}
theorem ev : EvA (env s0 s1 s2 s3 s4 s5 s6) [] [0] e ⟨[.d .str], [], fun x y => c s0 x.1 some⟩ := fun x y => Eq.trans (b := c s0 x.1 fun r => some (e r)) (by kernel_rfl) (by simp only [c, bif_bind, sum_bind, oa, os, on, ofs])
theorem s0_ev : EvA (env s0 s1 s2 s3 s4 s5 s6) [1, 0, 1] [0, 13] e ⟨[.d .str, .d .bool], [], fun x y => s0c s1 x.1 x.2.1 some⟩ := fun x y => Eq.trans (b := s0c s1 x.1 x.2.1 fun r => some (e r)) (by kernel_rfl) (by simp only [s0c, bif_bind, sum_bind, oa, os, on, ofs])
theorem s1_ev : EvA (env s0 s1 s2 s3 s4 s5 s6) [1, 1] [0] e ⟨[.d .str], [], fun x y => s1c s2 x.1 some⟩ := fun x y => Eq.trans (b := s1c s2 x.1 fun r => some (e r)) (by kernel_rfl) (by simp only [s1c, bif_bind, sum_bind, oa, os, on, ofs])
theorem s2_ev : EvA (env s0 s1 s2 s3 s4 s5 s6) [4, 1, 0, 1, 1] [15, 16, 17] e ⟨[.d (.sl (.int .u8)), .d (.int .i64), .d (.int .i64)], [], fun x y => s2c s3 x.1 x.2.1 x.2.2.1 some⟩ := fun x y => Eq.trans (b := s2c s3 x.1 x.2.1 x.2.2.1 fun r => some (e r)) (by kernel_rfl) (by simp only [s2c, bif_bind, sum_bind, oa, os, on, ofs])
theorem s3_ev : EvA (env s0 s1 s2 s3 s4 s5 s6) [1, 1, 4, 0, 1, 1, 5, 4, 1, 0, 1, 1] [3, 4, 5, 15, 16, 17] e ⟨[.d (.int .i64), .d (.int .u8), .d .bool, .d (.sl (.int .u8)), .d (.int .i64), .d (.int .i64)], [], fun x y => s3c s4 x.1 x.2.1 x.2.2.1 x.2.2.2.1 x.2.2.2.2.1 x.2.2.2.2.2.1 some⟩ := fun x y => Eq.trans (b := s3c s4 x.1 x.2.1 x.2.2.1 x.2.2.2.1 x.2.2.2.2.1 x.2.2.2.2.2.1 fun r => some (e r)) (by kernel_rfl) (by simp only [s3c, bif_bind, sum_bind, oa, os, on, ofs])
theorem s4_ev : EvA (env s0 s1 s2 s3 s4 s5 s6) [1, 1, 1, 4, 0, 1, 1, 5, 4, 1, 0, 1, 1] [3, 5, 6, 15, 16, 17] e ⟨[.d (.int .i64), .d .bool, .d .bool, .d (.sl (.int .u8)), .d (.int .i64), .d (.int .i64)], [], fun x y => s4c s5 x.1 x.2.1 x.2.2.1 x.2.2.2.1 x.2.2.2.2.1 x.2.2.2.2.2.1 some⟩ := fun x y => Eq.trans (b := s4c s5 x.1 x.2.1 x.2.2.1 x.2.2.2.1 x.2.2.2.2.1 x.2.2.2.2.2.1 fun r => some (e r)) (by kernel_rfl) (by simp only [s4c, bif_bind, sum_bind, oa, os, on, ofs])
theorem s5_ev : EvA (env s0 s1 s2 s3 s4 s5 s6) [1, 1, 1, 1, 4, 0, 1, 1, 5, 4, 1, 0, 1, 1] [15, 16, 17, 47] e ⟨[.d (.sl (.int .u8)), .d (.int .i64), .d (.int .i64), .d .bool], [], fun x y => s5c s6 x.1 x.2.1 x.2.2.1 x.2.2.2.1 some⟩ := fun x y => Eq.trans (b := s5c s6 x.1 x.2.1 x.2.2.1 x.2.2.2.1 fun r => some (e r)) (by kernel_rfl) (by simp only [s5c, bif_bind, sum_bind, oa, os, on, ofs])
theorem s6_ev : EvA (env s0 s1 s2 s3 s4 s5 s6) [1, 1, 1, 5, 4, 1, 0, 1, 1] [15, 16, 17] e ⟨[.d (.sl (.int .u8)), .d (.int .i64), .d (.int .i64)], [], fun x y => s6c s2 x.1 x.2.1 x.2.2.1 some⟩ := fun x y => Eq.trans (b := s6c s2 x.1 x.2.1 x.2.2.1 fun r => some (e r)) (by kernel_rfl) (by simp only [s6c, bif_bind, sum_bind, oa, os, on, ofs])
end
mutual
def s0 : Nat → ByteArray → Bool → Option Int
  | 0, _, _ => none
  | k + 1, x0, x1 => s0c (s1 k) x0 x1 some
def s1 : Nat → ByteArray → Option Int
  | 0, _ => none
  | k + 1, x0 => s1c (s2 k) x0 some
def s2 : Nat → (List Int) → Int → Int → Option Int
  | 0, _, _, _ => none
  | k + 1, x0, x1, x2 => s2c (s3 k) x0 x1 x2 some
def s3 : Nat → Int → Int → Bool → (List Int) → Int → Int → Option Int
  | 0, _, _, _, _, _, _ => none
  | k + 1, x0, x1, x2, x3, x4, x5 => s3c (s4 k) x0 x1 x2 x3 x4 x5 some
def s4 : Nat → Int → Bool → Bool → (List Int) → Int → Int → Option Int
  | 0, _, _, _, _, _, _ => none
  | k + 1, x0, x1, x2, x3, x4, x5 => s4c (s5 k) x0 x1 x2 x3 x4 x5 some
def s5 : Nat → (List Int) → Int → Int → Bool → Option Int
  | 0, _, _, _, _ => none
  | k + 1, x0, x1, x2, x3 => s5c (s6 k) x0 x1 x2 x3 some
def s6 : Nat → (List Int) → Int → Int → Option Int
  | 0, _, _, _ => none
  | k + 1, x0, x1, x2 => s6c (s2 k) x0 x1 x2 some
end
def f (k : Nat) (a0 : ByteArray) : Option Int := c (s0 k) a0 some
noncomputable abbrev E (k : Nat) : FEnv := env  (s0 k) (s1 k) (s2 k) (s3 k) (s4 k) (s5 k) (s6 k)
theorem hE (k : Nat) : EnvOK (E k).toEnv := ctsOK L.nil
theorem segs_ok : ∀ k, ∀ s ∈ [sg0 (s0 k), sg1 (s1 k), sg2 (s2 k), sg3 (s3 k), sg4 (s4 k), sg5 (s5 k), sg6 (s6 k)], SegB prog f110 0 s
  | 0 => (L.cons (sg_none (L.cons (fun _ _ => rfl) L.nil)) (L.cons (sg_none (L.cons (fun _ _ => rfl) L.nil)) (L.cons (sg_none (L.cons (fun _ _ => rfl) L.nil)) (L.cons (sg_none (L.cons (fun _ _ => rfl) L.nil)) (L.cons (sg_none (L.cons (fun _ _ => rfl) L.nil)) (L.cons (sg_none (L.cons (fun _ _ => rfl) L.nil)) (L.cons (sg_none (L.cons (fun _ _ => rfl) L.nil)) L.nil)))))))
  | k + 1 => (L.cons (sg_ok (hE k) (segs_ok k) (L.cons s0_ev L.nil)) (L.cons (sg_ok (hE k) (segs_ok k) (L.cons s1_ev L.nil)) (L.cons (sg_ok (hE k) (segs_ok k) (L.cons s2_ev L.nil)) (L.cons (sg_ok (hE k) (segs_ok k) (L.cons s3_ev L.nil)) (L.cons (sg_ok (hE k) (segs_ok k) (L.cons s4_ev L.nil)) (L.cons (sg_ok (hE k) (segs_ok k) (L.cons s5_ev L.nil)) (L.cons (sg_ok (hE k) (segs_ok k) (L.cons s6_ev L.nil)) L.nil)))))))
theorem ok (k : Nat) : CtOK prog 110 (ct (f k)) := fn_ok func110 rfl (by decide) (hE k) (segs_ok k) (L.cons ev L.nil)
end names_Check
namespace values_only
def e (r : Int × Int × Int × ByteArray) : Res := ⟨.v (.agg [(.d (.int .i64) r.1), (.d (.int .i64) r.2.1), (.d (.int .u64) r.2.2.1), (.d .str r.2.2.2)]), []⟩
abbrev G : Type := Int → Int → Int → ByteArray → Option (Int × Int × Int × ByteArray)
def ct (g : G) : Ct := mkCt 0 [] [⟨[.s T_api_Value], [], fun x y => g x.1.1.1 x.1.1.2.1 x.1.1.2.2.1 x.1.1.2.2.2.1⟩] e
abbrev S0 : Type := Int → Bool → Int → Int → Int → ByteArray → Int → Int → Int → ByteArray → Int → Int → Int → ByteArray → Option (Int × Int × Int × ByteArray)
def sg0 (s : S0) : Seg := mkSg [1, 4, 1, 0, 1, 1] [] [1, 2, 3, 8, 9] [⟨[.k (.ptr 0 0), .k (.ptr 1 0), .k (.ptr 2 0), .d (.int .i64), .d .bool], [.box [.g T_api_Value], .box [.g T_api_Value], .box [.g T_api_Value]], fun x y => s x.2.2.2.1 x.2.2.2.2.1 y.1.1.1 y.1.1.2.1 y.1.1.2.2.1 y.1.1.2.2.2.1 y.2.1.1.1 y.2.1.1.2.1 y.2.1.1.2.2.1 y.2.1.1.2.2.2.1 y.2.2.1.1.1 y.2.2.1.1.2.1 y.2.2.1.1.2.2.1 y.2.2.1.1.2.2.2.1⟩] e
section
variable {β : Type} (s0 : S0)
noncomputable abbrev env : FEnv := mkEnv prog f100 [] 0 [] [sg0 s0]
def c (a0 : Int) (a1 : Int) (a2 : Int) (a3 : ByteArray) (ret : (Int × Int × Int × ByteArray) → Option β) : Option β := (bif (a0 == (1 : Int)) then ((s0 a0 (a0 == (1 : Int)) a0 a1 a2 a3 (0 : Int) (0 : Int) (0 : Int) (ByteArray.mk (List.toArray [])) a0 (0 : Int) (0 : Int) (ByteArray.mk (List.toArray []))).bind ret) else ((s0 a0 (a0 == (2 : Int)) a0 a1 a2 a3 (0 : Int) (0 : Int) (0 : Int) (ByteArray.mk (List.toArray [])) a0 (0 : Int) (0 : Int) (ByteArray.mk (List.toArray []))).bind ret))
def s0c (x0 : Int) (x1 : Bool) (x2 : Int) (x3 : Int) (x4 : Int) (x5 : ByteArray) (x6 : Int) (x7 : Int) (x8 : Int) (x9 : ByteArray) (x10 : Int) (x11 : Int) (x12 : Int) (x13 : ByteArray) (ret : (Int × Int × Int × ByteArray) → Option β) : Option β := (bif x1 then (ret (x10, x3, x12, x13)) else (bif (x0 == (3 : Int)) then (ret (x10, x11, x4, x13)) else (bif (x0 == (4 : Int)) then (bif (x0 == (4 : Int)) then (ret (x10, x11, x12, x5)) else (ret (x10, x11, x12, x13))) else (bif (x0 == (5 : Int)) then (ret (x10, x11, x12, x5)) else (ret (x10, x11, x12, x13))))))
variable {s0}
theorem ev : EvA (env s0) [] [0] e ⟨[.s T_api_Value], [], fun x y => c s0 x.1.1.1 x.1.1.2.1 x.1.1.2.2.1 x.1.1.2.2.2.1 some⟩ := fun x y => Eq.trans (b := c s0 x.1.1.1 x.1.1.2.1 x.1.1.2.2.1 x.1.1.2.2.2.1 fun r => some (e r)) (by kernel_rfl) (by simp only [c, bif_bind, sum_bind, oa, os, on, ofs])
theorem s0_ev : EvA (env s0) [1, 4, 1, 0, 1, 1] [1, 2, 3, 8, 9] e ⟨[.k (.ptr 0 0), .k (.ptr 1 0), .k (.ptr 2 0), .d (.int .i64), .d .bool], [.box [.g T_api_Value], .box [.g T_api_Value], .box [.g T_api_Value]], fun x y => s0c x.2.2.2.1 x.2.2.2.2.1 y.1.1.1 y.1.1.2.1 y.1.1.2.2.1 y.1.1.2.2.2.1 y.2.1.1.1 y.2.1.1.2.1 y.2.1.1.2.2.1 y.2.1.1.2.2.2.1 y.2.2.1.1.1 y.2.2.1.1.2.1 y.2.2.1.1.2.2.1 y.2.2.1.1.2.2.2.1 some⟩ := fun x y => Eq.trans (b := s0c x.2.2.2.1 x.2.2.2.2.1 y.1.1.1 y.1.1.2.1 y.1.1.2.2.1 y.1.1.2.2.2.1 y.2.1.1.1 y.2.1.1.2.1 y.2.1.1.2.2.1 y.2.1.1.2.2.2.1 y.2.2.1.1.1 y.2.2.1.1.2.1 y.2.2.1.1.2.2.1 y.2.2.1.1.2.2.2.1 fun r => some (e r)) (by kernel_rfl) (by simp only [s0c, bif_bind, sum_bind, oa, os, on, ofs])
end
def s0 : Nat → Int → Bool → Int → Int → Int → ByteArray → Int → Int → Int → ByteArray → Int → Int → Int → ByteArray → Option (Int × Int × Int × ByteArray)
  | 0, _, _, _, _, _, _, _, _, _, _, _, _, _, _ => none
  | k + 1, x0, x1, x2, x3, x4, x5, x6, x7, x8, x9, x10, x11, x12, x13 => s0c  x0 x1 x2 x3 x4 x5 x6 x7 x8 x9 x10 x11 x12 x13 some
def f (k : Nat) (a0 : Int) (a1 : Int) (a2 : Int) (a3 : ByteArray) : Option (Int × Int × Int × ByteArray) := c (s0 k) a0 a1 a2 a3 some
noncomputable abbrev E (k : Nat) : FEnv := env  (s0 k)
theorem hE (k : Nat) : EnvOK (E k).toEnv := ctsOK L.nil
theorem segs_ok : ∀ k, ∀ s ∈ [sg0 (s0 k)], SegB prog f100 0 s
  | 0 => (L.cons (sg_none (L.cons (fun _ _ => rfl) L.nil)) L.nil)
  | k + 1 => (L.cons (sg_ok (hE k) (segs_ok k) (L.cons s0_ev L.nil)) L.nil)
theorem ok (k : Nat) : CtOK prog 100 (ct (f k)) := fn_ok func100 rfl (by decide) (hE k) (segs_ok k) (L.cons ev L.nil)
end values_only
/-! ### math_Float64frombits: function 126 (no body) -/
def math_Float64frombits.ct (g : Int → Option Nat) : Ct where
  nin := 0
  mv := []
  F := fun tvs blks {β} K => match tvs, blks with
    | [.v (.one (.d (.int .u64) a0))], [] => (g a0).bind fun r => K ⟨.v (.one (.d .flt r)), []⟩
    | _, _ => none
  legit := fun _ _ K _ h => by split at h; exact (legit1 K h :); simp at h
def math_Float64frombits.f (k : Nat) (a0 : Int) : Option Nat := some (a0.toNat)
theorem math_Float64frombits.ok (k : Nat) : CtOK Go.Proofs.Tryz.prog 126 (math_Float64frombits.ct (math_Float64frombits.f k)) := by
  refine ct_extern ?_
  intro tvs blks res h
  simp only [math_Float64frombits.ct] at h
  split at h
  · simp only [math_Float64frombits.f, Option.bind_some, Option.some.injEq] at h; subst h
    rename_i a0
    refine ⟨.float .f64 a0.toNat, ?_, rfl, rfl⟩
    intro w S ρ H vals hm hv
    obtain ⟨v0, m0, rfl, h0, hv⟩ := All2.cons_left hv
    cases All2.nil_left hv
    simp only [RepTV, RepVV, RepAV, Rd, List.cons.injEq, and_true] at h0
    subst h0
    exact ⟨run_callFunc_extern (e := Extern.MathFloatBits.float64frombits) Go.Proofs.Tryz.func126 (by kernel_rfl) (by kernel_rfl) (by kernel_rfl) (by kernel_rfl) _ w, rfl⟩
  · simp at h


namespace reals_Canon
def e (r : Int) : Res := ⟨.v (.one (.d (.int .u64) r)), []⟩
abbrev G : Type := Int → Option Int
def ct (g : G) : Ct := mkCt 0 [] [⟨[.d (.int .u64)], [], fun x y => g x.1⟩] e
section
variable {β : Type} (g126 : Int → Option Nat)
noncomputable abbrev env : FEnv := mkEnv prog f101 [(126, math_Float64frombits.ct g126)] 0 [] []
def c (a0 : Int) (ret : Int → Option β) : Option β := ((g126 a0).bind fun r0 => (bif ((Ieee.Format.order (FloatKind.format FloatKind.f64) r0 r0) != (Option.some Ordering.eq)) then (ret ((9221120237041090560 : Int))) else (ret (a0))))
variable {g126}
theorem ev : EvA (env g126) [] [0] e ⟨[.d (.int .u64)], [], fun x y => c g126 x.1 some⟩ := fun x y => Eq.trans (b := c g126 x.1 fun r => some (e r)) (by kernel_rfl) (by simp only [c, bif_bind, sum_bind, oa, os, on, ofs])
end
def f (k : Nat) (a0 : Int) : Option Int := c (math_Float64frombits.f k) a0 some
noncomputable abbrev E (k : Nat) : FEnv := env (math_Float64frombits.f k) 
theorem hE (k : Nat) : EnvOK (E k).toEnv := ctsOK (L.cons (math_Float64frombits.ok k) L.nil)
theorem ok (k : Nat) : CtOK prog 101 (ct (f k)) := fn_ok func101 rfl (by decide) (hE k) L.nil (L.cons ev L.nil)
end reals_Canon
namespace utf_first
def e (r : Int × Int × Int × Int) : Res := ⟨.tup [(.one (.d (.int .i64) r.1)), (.one (.d (.int .i64) r.2.1)), (.one (.d (.int .u8) r.2.2.1)), (.one (.d (.int .u8) r.2.2.2))], []⟩
abbrev G : Type := Int → Option (Int × Int × Int × Int)
def ct (g : G) : Ct := mkCt 0 [] [⟨[.d (.int .u8)], [], fun x y => g x.1⟩] e
abbrev S0 : Type := Int → Bool → Option (Int × Int × Int × Int)
def sg0 (s : S0) : Seg := mkSg [1, 3, 1, 4, 0, 1] [] [0, 11] [⟨[.d (.int .u8), .d .bool], [], fun x y => s x.1 x.2.1⟩] e
section
variable {β : Type} (s0 : S0)
noncomputable abbrev env : FEnv := mkEnv prog f153 [] 0 [] [sg0 s0]
def c (a0 : Int) (ret : (Int × Int × Int × Int) → Option β) : Option β := (bif (decide (a0 < (128 : Int))) then (ret ((1 : Int), (IntKind.wrap IntKind.i64 a0), (0 : Int), (0 : Int))) else (bif (decide (a0 < (194 : Int))) then ((s0 a0 true).bind ret) else ((s0 a0 (decide (a0 > (244 : Int)))).bind ret)))
def s0c (x0 : Int) (x1 : Bool) (ret : (Int × Int × Int × Int) → Option β) : Option β := (bif x1 then (ret ((0 : Int), (0 : Int), (0 : Int), (0 : Int))) else (bif (decide (x0 < (224 : Int))) then (ret ((2 : Int), (IntKind.wrap IntKind.i64 (IntKind.wrap IntKind.u8 ((BitVec.toNat ((BitVec.ofInt (8 : Nat) x0) &&& (BitVec.ofInt (8 : Nat) (31 : Int)))) : Int))), (128 : Int), (191 : Int))) else (bif (x0 == (224 : Int)) then (ret ((3 : Int), (0 : Int), (160 : Int), (191 : Int))) else (bif (x0 == (237 : Int)) then (ret ((3 : Int), (IntKind.wrap IntKind.i64 (IntKind.wrap IntKind.u8 ((BitVec.toNat ((BitVec.ofInt (8 : Nat) x0) &&& (BitVec.ofInt (8 : Nat) (15 : Int)))) : Int))), (128 : Int), (159 : Int))) else (bif (decide (x0 < (240 : Int))) then (ret ((3 : Int), (IntKind.wrap IntKind.i64 (IntKind.wrap IntKind.u8 ((BitVec.toNat ((BitVec.ofInt (8 : Nat) x0) &&& (BitVec.ofInt (8 : Nat) (15 : Int)))) : Int))), (128 : Int), (191 : Int))) else (bif (x0 == (240 : Int)) then (ret ((4 : Int), (0 : Int), (144 : Int), (191 : Int))) else (bif (x0 == (244 : Int)) then (ret ((4 : Int), (4 : Int), (128 : Int), (143 : Int))) else (ret ((4 : Int), (IntKind.wrap IntKind.i64 (IntKind.wrap IntKind.u8 ((BitVec.toNat ((BitVec.ofInt (8 : Nat) x0) &&& (BitVec.ofInt (8 : Nat) (7 : Int)))) : Int))), (128 : Int), (191 : Int))))))))))
variable {s0}
theorem ev : EvA (env s0) [] [0] e ⟨[.d (.int .u8)], [], fun x y => c s0 x.1 some⟩ := fun x y => Eq.trans (b := c s0 x.1 fun r => some (e r)) (by kernel_rfl) (by simp only [c, bif_bind, sum_bind, oa, os, on, ofs])
theorem s0_ev : EvA (env s0) [1, 3, 1, 4, 0, 1] [0, 11] e ⟨[.d (.int .u8), .d .bool], [], fun x y => s0c x.1 x.2.1 some⟩ := fun x y => Eq.trans (b := s0c x.1 x.2.1 fun r => some (e r)) (by kernel_rfl) (by simp only [s0c, bif_bind, sum_bind, oa, os, on, ofs])
end
def s0 : Nat → Int → Bool → Option (Int × Int × Int × Int)
  | 0, _, _ => none
  | k + 1, x0, x1 => s0c  x0 x1 some
def f (k : Nat) (a0 : Int) : Option (Int × Int × Int × Int) := c (s0 k) a0 some
noncomputable abbrev E (k : Nat) : FEnv := env  (s0 k)
theorem hE (k : Nat) : EnvOK (E k).toEnv := ctsOK L.nil
theorem segs_ok : ∀ k, ∀ s ∈ [sg0 (s0 k)], SegB prog f153 0 s
  | 0 => (L.cons (sg_none (L.cons (fun _ _ => rfl) L.nil)) L.nil)
  | k + 1 => (L.cons (sg_ok (hE k) (segs_ok k) (L.cons s0_ev L.nil)) L.nil)
theorem ok (k : Nat) : CtOK prog 153 (ct (f k)) := fn_ok func153 rfl (by decide) (hE k) (segs_ok k) (L.cons ev L.nil)
end utf_first
namespace utf_Next
def e (r : Int × Int × Int) : Res := ⟨.tup [(.one (.d (.int .i64) r.1)), (.one (.d (.int .i64) r.2.1)), (.one (.d (.int .i64) r.2.2))], []⟩
abbrev G : Type := ByteArray → Option (Int × Int × Int)
def ct (g : G) : Ct := mkCt 0 [] [⟨[.d .str], [], fun x y => g x.1⟩] e
abbrev S0 : Type := ByteArray → Int → Int → Int → Int → Int → Int → Option (Int × Int × Int)
abbrev S1 : Type := ByteArray → Int → Int → Int → Int → Bool → Option (Int × Int × Int)
abbrev S2 : Type := ByteArray → Int → Int → Int → Int → Option (Int × Int × Int)
abbrev S3 : Type := ByteArray → Int → Int → Int → Int → Int → Int → Option (Int × Int × Int)
def sg0 (s : S0) : Seg := mkSg [4, 1, 0, 1, 1, 1, 1, 1, 6, 1] [] [0, 5, 6, 7, 8, 9, 10] [⟨[.d .str, .d (.int .i64), .d (.int .i64), .d (.int .u8), .d (.int .u8), .d (.int .i64), .d (.int .i64)], [], fun x y => s x.1 x.2.1 x.2.2.1 x.2.2.2.1 x.2.2.2.2.1 x.2.2.2.2.2.1 x.2.2.2.2.2.2.1⟩] e
def sg1 (s : S1) : Seg := mkSg [1, 3, 1, 4, 0, 4, 0, 1, 5, 4, 1, 0, 1, 1, 1, 1, 1, 6, 1] [] [0, 5, 6, 9, 10, 33] [⟨[.d .str, .d (.int .i64), .d (.int .i64), .d (.int .i64), .d (.int .i64), .d .bool], [], fun x y => s x.1 x.2.1 x.2.2.1 x.2.2.2.1 x.2.2.2.2.1 x.2.2.2.2.2.1⟩] e
def sg2 (s : S2) : Seg := mkSg [1, 4, 0, 1, 5, 4, 1, 0, 1, 1, 1, 1, 1, 6, 1] [] [0, 5, 6, 9, 10] [⟨[.d .str, .d (.int .i64), .d (.int .i64), .d (.int .i64), .d (.int .i64)], [], fun x y => s x.1 x.2.1 x.2.2.1 x.2.2.2.1 x.2.2.2.2.1⟩] e
def sg3 (s : S3) : Seg := mkSg [1, 1, 5, 4, 1, 0, 1, 1, 1, 1, 1, 6, 1] [] [0, 5, 6, 7, 8, 9, 10] [⟨[.d .str, .d (.int .i64), .d (.int .i64), .d (.int .u8), .d (.int .u8), .d (.int .i64), .d (.int .i64)], [], fun x y => s x.1 x.2.1 x.2.2.1 x.2.2.2.1 x.2.2.2.2.1 x.2.2.2.2.2.1 x.2.2.2.2.2.2.1⟩] e
section
variable {β : Type} (g153 : utf_first.G) (s0 : S0) (s1 : S1) (s2 : S2) (s3 : S3)
noncomputable abbrev env : FEnv := mkEnv prog f145 [(153, utf_first.ct g153)] 0 [] [sg0 s0, sg1 s1, sg2 s2, sg3 s3]
def c (a0 : ByteArray) (ret : (Int × Int × Int) → Option β) : Option β := (bif ((ByteArray.toList a0) == (ByteArray.toList (ByteArray.mk (List.toArray [])))) then (ret ((0 : Int), (0 : Int), (3 : Int))) else (bif (true && (decide ((0 : Int) < ((ByteArray.size a0) : Int)))) then ((g153 (bt a0 (0 : Int))).bind fun r0 => (bif (r0.1 == (0 : Int)) then (ret ((0 : Int), (0 : Int), (7 : Int))) else ((s0 a0 r0.1 r0.2.1 r0.2.2.1 r0.2.2.2 (0 : Int) (1 : Int)).bind ret))) else none))
def s0c (x0 : ByteArray) (x1 : Int) (x2 : Int) (x3 : Int) (x4 : Int) (x5 : Int) (x6 : Int) (ret : (Int × Int × Int) → Option β) : Option β := (bif (decide (x6 < x1)) then (bif (decide (x6 ≥ ((ByteArray.size x0) : Int))) then (ret ((0 : Int), (0 : Int), (3 : Int))) else (bif ((decide ((0 : Int) ≤ x6)) && (decide (x6 < ((ByteArray.size x0) : Int)))) then (bif (decide ((bt x0 x6) < x3)) then ((s1 x0 x1 x2 x5 x6 true).bind ret) else (bif ((decide ((0 : Int) ≤ x6)) && (decide (x6 < ((ByteArray.size x0) : Int)))) then ((s1 x0 x1 x2 x5 x6 (decide ((bt x0 x6) > x4))).bind ret) else none)) else none)) else (bif (x5 != (0 : Int)) then (ret ((0 : Int), (0 : Int), x5)) else (ret (x2, x1, (0 : Int)))))
def s1c (x0 : ByteArray) (x1 : Int) (x2 : Int) (x3 : Int) (x4 : Int) (x5 : Bool) (ret : (Int × Int × Int) → Option β) : Option β := (bif x5 then (ret ((0 : Int), (0 : Int), (7 : Int))) else ((s2 x0 x1 x2 x3 x4).bind ret))
def s2c (x0 : ByteArray) (x1 : Int) (x2 : Int) (x3 : Int) (x4 : Int) (ret : (Int × Int × Int) → Option β) : Option β := (bif ((decide ((0 : Int) ≤ x4)) && (decide (x4 < ((ByteArray.size x0) : Int)))) then ((s3 x0 x1 (IntKind.wrap IntKind.i64 ((BitVec.toNat ((BitVec.ofInt (64 : Nat) (IntKind.wrap IntKind.i64 (x2 * (64 : Int)))) ||| (BitVec.ofInt (64 : Nat) (IntKind.wrap IntKind.i64 (IntKind.wrap IntKind.u8 ((BitVec.toNat ((BitVec.ofInt (8 : Nat) (bt x0 x4)) &&& (BitVec.ofInt (8 : Nat) (63 : Int)))) : Int)))))) : Int)) (128 : Int) (191 : Int) x3 x4).bind ret) else none)
def s3c (x0 : ByteArray) (x1 : Int) (x2 : Int) (x3 : Int) (x4 : Int) (x5 : Int) (x6 : Int) (ret : (Int × Int × Int) → Option β) : Option β := ((s0 x0 x1 x2 x3 x4 x5 (IntKind.wrap IntKind.i64 (x6 + (1 : Int)))).bind ret)
variable {g153} {s0} {s1} {s2} {s3}
theorem ev : EvA (env g153 s0 s1 s2 s3) [] [0] e ⟨[.d .str], [], fun x y => c g153 s0 x.1 some⟩ := fun x y => Eq.trans (b := c g153 s0 x.1 fun r => some (e r)) (by kernel_rfl) (by simp only [c, bif_bind, sum_bind, oa, os, on, ofs])
theorem s0_ev : EvA (env g153 s0 s1 s2 s3) [4, 1, 0, 1, 1, 1, 1, 1, 6, 1] [0, 5, 6, 7, 8, 9, 10] e ⟨[.d .str, .d (.int .i64), .d (.int .i64), .d (.int .u8), .d (.int .u8), .d (.int .i64), .d (.int .i64)], [], fun x y => s0c s1 x.1 x.2.1 x.2.2.1 x.2.2.2.1 x.2.2.2.2.1 x.2.2.2.2.2.1 x.2.2.2.2.2.2.1 some⟩ := fun x y => Eq.trans (b := s0c s1 x.1 x.2.1 x.2.2.1 x.2.2.2.1 x.2.2.2.2.1 x.2.2.2.2.2.1 x.2.2.2.2.2.2.1 fun r => some (e r)) (by kernel_rfl) (by simp only [s0c, bif_bind, sum_bind, oa, os, on, ofs])
theorem s1_ev : EvA (env g153 s0 s1 s2 s3) [1, 3, 1, 4, 0, 4, 0, 1, 5, 4, 1, 0, 1, 1, 1, 1, 1, 6, 1] [0, 5, 6, 9, 10, 33] e ⟨[.d .str, .d (.int .i64), .d (.int .i64), .d (.int .i64), .d (.int .i64), .d .bool], [], fun x y => s1c s2 x.1 x.2.1 x.2.2.1 x.2.2.2.1 x.2.2.2.2.1 x.2.2.2.2.2.1 some⟩ := fun x y => Eq.trans (b := s1c s2 x.1 x.2.1 x.2.2.1 x.2.2.2.1 x.2.2.2.2.1 x.2.2.2.2.2.1 fun r => some (e r)) (by kernel_rfl) (by simp only [s1c, bif_bind, sum_bind, oa, os, on, ofs])
theorem s2_ev : EvA (env g153 s0 s1 s2 s3) [1, 4, 0, 1, 5, 4, 1, 0, 1, 1, 1, 1, 1, 6, 1] [0, 5, 6, 9, 10] e ⟨[.d .str, .d (.int .i64), .d (.int .i64), .d (.int .i64), .d (.int .i64)], [], fun x y => s2c s3 x.1 x.2.1 x.2.2.1 x.2.2.2.1 x.2.2.2.2.1 some⟩ := fun x y => Eq.trans (b := s2c s3 x.1 x.2.1 x.2.2.1 x.2.2.2.1 x.2.2.2.2.1 fun r => some (e r)) (by kernel_rfl) (by simp only [s2c, bif_bind, sum_bind, oa, os, on, ofs])
theorem s3_ev : EvA (env g153 s0 s1 s2 s3) [1, 1, 5, 4, 1, 0, 1, 1, 1, 1, 1, 6, 1] [0, 5, 6, 7, 8, 9, 10] e ⟨[.d .str, .d (.int .i64), .d (.int .i64), .d (.int .u8), .d (.int .u8), .d (.int .i64), .d (.int .i64)], [], fun x y => s3c s0 x.1 x.2.1 x.2.2.1 x.2.2.2.1 x.2.2.2.2.1 x.2.2.2.2.2.1 x.2.2.2.2.2.2.1 some⟩ := fun x y => Eq.trans (b := s3c s0 x.1 x.2.1 x.2.2.1 x.2.2.2.1 x.2.2.2.2.1 x.2.2.2.2.2.1 x.2.2.2.2.2.2.1 fun r => some (e r)) (by kernel_rfl) (by simp only [s3c, bif_bind, sum_bind, oa, os, on, ofs])
end
mutual
def s0 : Nat → ByteArray → Int → Int → Int → Int → Int → Int → Option (Int × Int × Int)
  | 0, _, _, _, _, _, _, _ => none
  | k + 1, x0, x1, x2, x3, x4, x5, x6 => s0c (s1 k) x0 x1 x2 x3 x4 x5 x6 some
def s1 : Nat → ByteArray → Int → Int → Int → Int → Bool → Option (Int × Int × Int)
  | 0, _, _, _, _, _, _ => none
  | k + 1, x0, x1, x2, x3, x4, x5 => s1c (s2 k) x0 x1 x2 x3 x4 x5 some
def s2 : Nat → ByteArray → Int → Int → Int → Int → Option (Int × Int × Int)
  | 0, _, _, _, _, _ => none
  | k + 1, x0, x1, x2, x3, x4 => s2c (s3 k) x0 x1 x2 x3 x4 some
def s3 : Nat → ByteArray → Int → Int → Int → Int → Int → Int → Option (Int × Int × Int)
  | 0, _, _, _, _, _, _, _ => none
  | k + 1, x0, x1, x2, x3, x4, x5, x6 => s3c (s0 k) x0 x1 x2 x3 x4 x5 x6 some
end
def f (k : Nat) (a0 : ByteArray) : Option (Int × Int × Int) := c (utf_first.f k) (s0 k) a0 some
noncomputable abbrev E (k : Nat) : FEnv := env (utf_first.f k) (s0 k) (s1 k) (s2 k) (s3 k)
theorem hE (k : Nat) : EnvOK (E k).toEnv := ctsOK (L.cons (utf_first.ok k) L.nil)
theorem segs_ok : ∀ k, ∀ s ∈ [sg0 (s0 k), sg1 (s1 k), sg2 (s2 k), sg3 (s3 k)], SegB prog f145 0 s
  | 0 => (L.cons (sg_none (L.cons (fun _ _ => rfl) L.nil)) (L.cons (sg_none (L.cons (fun _ _ => rfl) L.nil)) (L.cons (sg_none (L.cons (fun _ _ => rfl) L.nil)) (L.cons (sg_none (L.cons (fun _ _ => rfl) L.nil)) L.nil))))
  | k + 1 => (L.cons (sg_ok (hE k) (segs_ok k) (L.cons s0_ev L.nil)) (L.cons (sg_ok (hE k) (segs_ok k) (L.cons s1_ev L.nil)) (L.cons (sg_ok (hE k) (segs_ok k) (L.cons s2_ev L.nil)) (L.cons (sg_ok (hE k) (segs_ok k) (L.cons s3_ev L.nil)) L.nil))))
theorem ok (k : Nat) : CtOK prog 145 (ct (f k)) := fn_ok func145 rfl (by decide) (hE k) (segs_ok k) (L.cons ev L.nil)
end utf_Next
namespace utf_Count
def e (r : Int) : Res := ⟨.v (.one (.d (.int .i64) r)), []⟩
abbrev G : Type := ByteArray → Option Int
def ct (g : G) : Ct := mkCt 0 [] [⟨[.d .str], [], fun x y => g x.1⟩] e
abbrev S0 : Type := ByteArray → Int → Option Int
def sg0 (s : S0) : Seg := mkSg [4, 0, 1, 1] [] [0, 3] [⟨[.d .str, .d (.int .i64)], [], fun x y => s x.1 x.2.1⟩] e
section
variable {β : Type} (g145 : utf_Next.G) (s0 : S0)
noncomputable abbrev env : FEnv := mkEnv prog f127 [(145, utf_Next.ct g145)] 0 [] [sg0 s0]
def c (a0 : ByteArray) (ret : Int → Option β) : Option β := ((s0 a0 (0 : Int)).bind ret)
def s0c (x0 : ByteArray) (x1 : Int) (ret : Int → Option β) : Option β := (bif (!((ByteArray.toList x0) == (ByteArray.toList (ByteArray.mk (List.toArray []))))) then ((g145 x0).bind fun r0 => (bif (r0.2.2 != (0 : Int)) then (ret ((-1 : Int))) else (bif (((decide ((0 : Int) ≤ r0.2.1)) && (decide (r0.2.1 ≤ ((ByteArray.size x0) : Int)))) && (decide (((ByteArray.size x0) : Int) ≤ ((ByteArray.size x0) : Int)))) then ((s0 (ByteArray.extract x0 (Int.toNat r0.2.1) (Int.toNat ((ByteArray.size x0) : Int))) (IntKind.wrap IntKind.i64 (x1 + (1 : Int)))).bind ret) else none))) else (ret (x1)))
variable {g145} {s0}
theorem ev : EvA (env g145 s0) [] [0] e ⟨[.d .str], [], fun x y => c s0 x.1 some⟩ := fun x y => Eq.trans (b := c s0 x.1 fun r => some (e r)) (by kernel_rfl) (by simp only [c, bif_bind, sum_bind, oa, os, on, ofs])
theorem s0_ev : EvA (env g145 s0) [4, 0, 1, 1] [0, 3] e ⟨[.d .str, .d (.int .i64)], [], fun x y => s0c g145 s0 x.1 x.2.1 some⟩ := fun x y => Eq.trans (b := s0c g145 s0 x.1 x.2.1 fun r => some (e r)) (by kernel_rfl) (by simp only [s0c, bif_bind, sum_bind, oa, os, on, ofs])
end
def s0 : Nat → ByteArray → Int → Option Int
  | 0, _, _ => none
  | k + 1, x0, x1 => s0c (utf_Next.f k) (s0 k) x0 x1 some
def f (k : Nat) (a0 : ByteArray) : Option Int := c (s0 k) a0 some
noncomputable abbrev E (k : Nat) : FEnv := env (utf_Next.f k) (s0 k)
theorem hE (k : Nat) : EnvOK (E k).toEnv := ctsOK (L.cons (utf_Next.ok k) L.nil)
theorem segs_ok : ∀ k, ∀ s ∈ [sg0 (s0 k)], SegB prog f127 0 s
  | 0 => (L.cons (sg_none (L.cons (fun _ _ => rfl) L.nil)) L.nil)
  | k + 1 => (L.cons (sg_ok (hE k) (segs_ok k) (L.cons s0_ev L.nil)) L.nil)
theorem ok (k : Nat) : CtOK prog 127 (ct (f k)) := fn_ok func127 rfl (by decide) (hE k) (segs_ok k) (L.cons ev L.nil)
end utf_Count
namespace utf_Valid
def e (r : Bool) : Res := ⟨.v (.one (.d .bool r)), []⟩
abbrev G : Type := ByteArray → Option Bool
def ct (g : G) : Ct := mkCt 0 [] [⟨[.d .str], [], fun x y => g x.1⟩] e
section
variable {β : Type} (g127 : utf_Count.G)
noncomputable abbrev env : FEnv := mkEnv prog f102 [(127, utf_Count.ct g127)] 0 [] []
def c (a0 : ByteArray) (ret : Bool → Option β) : Option β := ((g127 a0).bind fun r0 => (ret ((decide (r0 ≥ (0 : Int))))))
variable {g127}
theorem ev : EvA (env g127) [] [0] e ⟨[.d .str], [], fun x y => c g127 x.1 some⟩ := fun x y => Eq.trans (b := c g127 x.1 fun r => some (e r)) (by kernel_rfl) (by simp only [c, bif_bind, sum_bind, oa, os, on, ofs])
end
def f (k : Nat) (a0 : ByteArray) : Option Bool := c (utf_Count.f k) a0 some
noncomputable abbrev E (k : Nat) : FEnv := env (utf_Count.f k) 
theorem hE (k : Nat) : EnvOK (E k).toEnv := ctsOK (L.cons (utf_Count.ok k) L.nil)
theorem ok (k : Nat) : CtOK prog 102 (ct (f k)) := fn_ok func102 rfl (by decide) (hE k) L.nil (L.cons ev L.nil)
end utf_Valid
namespace values_Check
def e (r : Int) : Res := ⟨.v (.one (.d (.int .i64) r)), []⟩
abbrev G : Type := Int → Int → Int → ByteArray → Option Int
def ct (g : G) : Ct := mkCt 0 [] [⟨[.s T_api_Value], [], fun x y => g x.1.1.1 x.1.1.2.1 x.1.1.2.2.1 x.1.1.2.2.2.1⟩] e
abbrev S0 : Type := Bool → Int → Int → Int → ByteArray → Option Int
abbrev S1 : Type := Bool → Int → Int → Int → ByteArray → Option Int
def sg0 (s : S0) : Seg := mkSg [1, 4, 0, 1] [] [1, 3] [⟨[.k (.ptr 0 0), .d .bool], [.box [.g T_api_Value]], fun x y => s x.2.1 y.1.1.1 y.1.1.2.1 y.1.1.2.2.1 y.1.1.2.2.2.1⟩] e
def sg1 (s : S1) : Seg := mkSg [1, 3, 1, 3, 1, 4, 0, 1] [] [1, 17] [⟨[.k (.ptr 0 0), .d .bool], [.box [.g T_api_Value]], fun x y => s x.2.1 y.1.1.1 y.1.1.2.1 y.1.1.2.2.1 y.1.1.2.2.2.1⟩] e
section
variable {β : Type} (g100 : values_only.G) (g101 : reals_Canon.G) (g102 : utf_Valid.G) (s0 : S0) (s1 : S1)
noncomputable abbrev env : FEnv := mkEnv prog f74 [(100, values_only.ct g100), (101, reals_Canon.ct g101), (102, utf_Valid.ct g102)] 0 [] [sg0 s0, sg1 s1]
def c (a0 : Int) (a1 : Int) (a2 : Int) (a3 : ByteArray) (ret : Int → Option β) : Option β := (bif (decide (a0 < (0 : Int))) then ((s0 true a0 a1 a2 a3).bind ret) else ((s0 (decide (a0 ≥ (6 : Int))) a0 a1 a2 a3).bind ret))
def s0c (x0 : Bool) (x1 : Int) (x2 : Int) (x3 : Int) (x4 : ByteArray) (ret : Int → Option β) : Option β := (bif x0 then (ret ((5 : Int))) else ((g100 x1 x2 x3 x4).bind fun r0 => (bif (!((r0.1 == x1) && ((r0.2.1 == x2) && ((r0.2.2.1 == x3) && (((ByteArray.toList r0.2.2.2) == (ByteArray.toList x4)) && true))))) then (ret ((4 : Int))) else (bif (x1 == (1 : Int)) then (bif (x2 != (0 : Int)) then ((s1 (x2 != (1 : Int)) x1 x2 x3 x4).bind ret) else ((s1 false x1 x2 x3 x4).bind ret)) else ((s1 false x1 x2 x3 x4).bind ret)))))
def s1c (x0 : Bool) (x1 : Int) (x2 : Int) (x3 : Int) (x4 : ByteArray) (ret : Int → Option β) : Option β := (bif x0 then (ret ((6 : Int))) else ((g101 x3).bind fun r0 => (bif (r0 != x3) then (ret ((4 : Int))) else (bif (decide (((ByteArray.size x4) : Int) > (64 : Int))) then (ret ((2 : Int))) else (bif (x1 == (5 : Int)) then ((g102 x4).bind fun r1 => (bif (!r1) then (ret ((7 : Int))) else (ret ((0 : Int))))) else (ret ((0 : Int))))))))
variable {g100} {g101} {g102} {s0} {s1}
theorem ev : EvA (env g100 g101 g102 s0 s1) [] [0] e ⟨[.s T_api_Value], [], fun x y => c s0 x.1.1.1 x.1.1.2.1 x.1.1.2.2.1 x.1.1.2.2.2.1 some⟩ := fun x y => Eq.trans (b := c s0 x.1.1.1 x.1.1.2.1 x.1.1.2.2.1 x.1.1.2.2.2.1 fun r => some (e r)) (by kernel_rfl) (by simp only [c, bif_bind, sum_bind, oa, os, on, ofs])
theorem s0_ev : EvA (env g100 g101 g102 s0 s1) [1, 4, 0, 1] [1, 3] e ⟨[.k (.ptr 0 0), .d .bool], [.box [.g T_api_Value]], fun x y => s0c g100 s1 x.2.1 y.1.1.1 y.1.1.2.1 y.1.1.2.2.1 y.1.1.2.2.2.1 some⟩ := fun x y => Eq.trans (b := s0c g100 s1 x.2.1 y.1.1.1 y.1.1.2.1 y.1.1.2.2.1 y.1.1.2.2.2.1 fun r => some (e r)) (by kernel_rfl) (by simp only [s0c, bif_bind, sum_bind, oa, os, on, ofs])
theorem s1_ev : EvA (env g100 g101 g102 s0 s1) [1, 3, 1, 3, 1, 4, 0, 1] [1, 17] e ⟨[.k (.ptr 0 0), .d .bool], [.box [.g T_api_Value]], fun x y => s1c g101 g102 x.2.1 y.1.1.1 y.1.1.2.1 y.1.1.2.2.1 y.1.1.2.2.2.1 some⟩ := fun x y => Eq.trans (b := s1c g101 g102 x.2.1 y.1.1.1 y.1.1.2.1 y.1.1.2.2.1 y.1.1.2.2.2.1 fun r => some (e r)) (by kernel_rfl) (by simp only [s1c, bif_bind, sum_bind, oa, os, on, ofs])
end
mutual
def s0 : Nat → Bool → Int → Int → Int → ByteArray → Option Int
  | 0, _, _, _, _, _ => none
  | k + 1, x0, x1, x2, x3, x4 => s0c (values_only.f k) (s1 k) x0 x1 x2 x3 x4 some
def s1 : Nat → Bool → Int → Int → Int → ByteArray → Option Int
  | 0, _, _, _, _, _ => none
  | k + 1, x0, x1, x2, x3, x4 => s1c (reals_Canon.f k) (utf_Valid.f k) x0 x1 x2 x3 x4 some
end
def f (k : Nat) (a0 : Int) (a1 : Int) (a2 : Int) (a3 : ByteArray) : Option Int := c (s0 k) a0 a1 a2 a3 some
noncomputable abbrev E (k : Nat) : FEnv := env (values_only.f k) (reals_Canon.f k) (utf_Valid.f k) (s0 k) (s1 k)
theorem hE (k : Nat) : EnvOK (E k).toEnv := ctsOK (L.cons (values_only.ok k) (L.cons (reals_Canon.ok k) (L.cons (utf_Valid.ok k) L.nil)))
theorem segs_ok : ∀ k, ∀ s ∈ [sg0 (s0 k), sg1 (s1 k)], SegB prog f74 0 s
  | 0 => (L.cons (sg_none (L.cons (fun _ _ => rfl) L.nil)) (L.cons (sg_none (L.cons (fun _ _ => rfl) L.nil)) L.nil))
  | k + 1 => (L.cons (sg_ok (hE k) (segs_ok k) (L.cons s0_ev L.nil)) (L.cons (sg_ok (hE k) (segs_ok k) (L.cons s1_ev L.nil)) L.nil))
theorem ok (k : Nat) : CtOK prog 74 (ct (f k)) := fn_ok func74 rfl (by decide) (hE k) (segs_ok k) (L.cons ev L.nil)
end values_Check
namespace schema_col
def e (r : ((Int × Unit)) ⊕ Unit) : Res := Sum.elim (fun r =>  ⟨.v (.one (.ifc 162 true (.pair (.int .i64) .unit) r)), []⟩) (fun r =>  ⟨.v (.one (.raw (.nilIface))), []⟩) r
abbrev G : Type := ByteArray → Int → Bool → Int → Int → Int → ByteArray → Option (((Int × Unit)) ⊕ Unit)
def ek {β : Type} (r : ((Int × Unit)) ⊕ Unit) (K : Res → Option β) : Option β := Sum.elim (fun r => K ⟨.v (.one (.ifc 162 true (.pair (.int .i64) .unit) r)), []⟩) (fun r => K ⟨.v (.one (.raw (.nilIface))), []⟩) r
theorem hk {β : Type} (r : ((Int × Unit)) ⊕ Unit) (K : Res → Option β) : ek r K = K (e r) := by rcases r with _ | _ <;> rfl
def ct (g : G) : Ct := mkCtS 0 [] [⟨[.s T_api_Col], [], fun x y => g x.1.1.1 x.1.1.2.1 x.1.1.2.2.1 x.1.1.2.2.2.1.1 x.1.1.2.2.2.1.2.1 x.1.1.2.2.2.1.2.2.1 x.1.1.2.2.2.1.2.2.2.1⟩] e ek hk
abbrev S0 : Type := Bool → ByteArray → Int → Bool → Int → Int → Int → ByteArray → Option (((Int × Unit)) ⊕ Unit)
abbrev S1 : Type := ByteArray → Int → Bool → Int → Int → Int → ByteArray → Option (((Int × Unit)) ⊕ Unit)
def sg0 (s : S0) : Seg := mkSg [1, 0, 1, 1] [] [1, 21] [⟨[.k (.ptr 0 0), .d .bool], [.box [.g T_api_Col]], fun x y => s x.2.1 y.1.1.1 y.1.1.2.1 y.1.1.2.2.1 y.1.1.2.2.2.1.1 y.1.1.2.2.2.1.2.1 y.1.1.2.2.2.1.2.2.1 y.1.1.2.2.2.1.2.2.2.1⟩] e
def sg1 (s : S1) : Seg := mkSg [1, 1, 1] [] [1] [⟨[.k (.ptr 0 0)], [.box [.g T_api_Col]], fun x y => s y.1.1.1 y.1.1.2.1 y.1.1.2.2.1 y.1.1.2.2.2.1.1 y.1.1.2.2.2.1.2.1 y.1.1.2.2.2.1.2.2.1 y.1.1.2.2.2.1.2.2.2.1⟩] e
section
variable {β : Type} (g74 : values_Check.G) (g110 : names_Check.G) (s0 : S0) (s1 : S1)
noncomputable abbrev env : FEnv := mkEnv prog f111 [(74, values_Check.ct g74), (110, names_Check.ct g110)] 0 [] [sg0 s0, sg1 s1]
def c (a0 : ByteArray) (a1 : Int) (a2 : Bool) (a3 : Int) (a4 : Int) (a5 : Int) (a6 : ByteArray) (ret : (((Int × Unit)) ⊕ Unit) → Option β) : Option β := ((g110 a0).bind fun r0 => (bif (r0 != (0 : Int)) then (ret (.inl ((r0, ())))) else (bif (decide (a1 < (1 : Int))) then ((s0 true a0 a1 a2 a3 a4 a5 a6).bind ret) else ((s0 (decide (a1 > (5 : Int))) a0 a1 a2 a3 a4 a5 a6).bind ret))))
def s0c (x0 : Bool) (x1 : ByteArray) (x2 : Int) (x3 : Bool) (x4 : Int) (x5 : Int) (x6 : Int) (x7 : ByteArray) (ret : (((Int × Unit)) ⊕ Unit) → Option β) : Option β := (bif x0 then (ret (.inl (((5 : Int), ())))) else ((s1 x1 x2 x3 x4 x5 x6 x7).bind ret))
def s1c (x0 : ByteArray) (x1 : Int) (x2 : Bool) (x3 : Int) (x4 : Int) (x5 : Int) (x6 : ByteArray) (ret : (((Int × Unit)) ⊕ Unit) → Option β) : Option β := ((g74 x3 x4 x5 x6).bind fun r0 => (bif (r0 != (0 : Int)) then (ret (.inl ((r0, ())))) else (bif (x3 != (0 : Int)) then (bif (x3 != x1) then (ret (.inl (((11 : Int), ())))) else (ret (.inr ()))) else (ret (.inr ())))))
variable {g74} {g110} {s0} {s1}
theorem ev : EvA (env g74 g110 s0 s1) [] [0] e ⟨[.s T_api_Col], [], fun x y => c g110 s0 x.1.1.1 x.1.1.2.1 x.1.1.2.2.1 x.1.1.2.2.2.1.1 x.1.1.2.2.2.1.2.1 x.1.1.2.2.2.1.2.2.1 x.1.1.2.2.2.1.2.2.2.1 some⟩ := fun x y => Eq.trans (b := c g110 s0 x.1.1.1 x.1.1.2.1 x.1.1.2.2.1 x.1.1.2.2.2.1.1 x.1.1.2.2.2.1.2.1 x.1.1.2.2.2.1.2.2.1 x.1.1.2.2.2.1.2.2.2.1 fun r => some (e r)) (by kernel_rfl) (by simp only [c, bif_bind, sum_bind, oa, os, on, ofs])
theorem s0_ev : EvA (env g74 g110 s0 s1) [1, 0, 1, 1] [1, 21] e ⟨[.k (.ptr 0 0), .d .bool], [.box [.g T_api_Col]], fun x y => s0c s1 x.2.1 y.1.1.1 y.1.1.2.1 y.1.1.2.2.1 y.1.1.2.2.2.1.1 y.1.1.2.2.2.1.2.1 y.1.1.2.2.2.1.2.2.1 y.1.1.2.2.2.1.2.2.2.1 some⟩ := fun x y => Eq.trans (b := s0c s1 x.2.1 y.1.1.1 y.1.1.2.1 y.1.1.2.2.1 y.1.1.2.2.2.1.1 y.1.1.2.2.2.1.2.1 y.1.1.2.2.2.1.2.2.1 y.1.1.2.2.2.1.2.2.2.1 fun r => some (e r)) (by kernel_rfl) (by simp only [s0c, bif_bind, sum_bind, oa, os, on, ofs])
theorem s1_ev : EvA (env g74 g110 s0 s1) [1, 1, 1] [1] e ⟨[.k (.ptr 0 0)], [.box [.g T_api_Col]], fun x y => s1c g74 y.1.1.1 y.1.1.2.1 y.1.1.2.2.1 y.1.1.2.2.2.1.1 y.1.1.2.2.2.1.2.1 y.1.1.2.2.2.1.2.2.1 y.1.1.2.2.2.1.2.2.2.1 some⟩ := fun x y => Eq.trans (b := s1c g74 y.1.1.1 y.1.1.2.1 y.1.1.2.2.1 y.1.1.2.2.2.1.1 y.1.1.2.2.2.1.2.1 y.1.1.2.2.2.1.2.2.1 y.1.1.2.2.2.1.2.2.2.1 fun r => some (e r)) (by kernel_rfl) (by simp only [s1c, bif_bind, sum_bind, oa, os, on, ofs])
end
mutual
def s0 : Nat → Bool → ByteArray → Int → Bool → Int → Int → Int → ByteArray → Option (((Int × Unit)) ⊕ Unit)
  | 0, _, _, _, _, _, _, _, _ => none
  | k + 1, x0, x1, x2, x3, x4, x5, x6, x7 => s0c (s1 k) x0 x1 x2 x3 x4 x5 x6 x7 some
def s1 : Nat → ByteArray → Int → Bool → Int → Int → Int → ByteArray → Option (((Int × Unit)) ⊕ Unit)
  | 0, _, _, _, _, _, _, _ => none
  | k + 1, x0, x1, x2, x3, x4, x5, x6 => s1c (values_Check.f k) x0 x1 x2 x3 x4 x5 x6 some
end
def f (k : Nat) (a0 : ByteArray) (a1 : Int) (a2 : Bool) (a3 : Int) (a4 : Int) (a5 : Int) (a6 : ByteArray) : Option (((Int × Unit)) ⊕ Unit) := c (names_Check.f k) (s0 k) a0 a1 a2 a3 a4 a5 a6 some
noncomputable abbrev E (k : Nat) : FEnv := env (values_Check.f k) (names_Check.f k) (s0 k) (s1 k)
theorem hE (k : Nat) : EnvOK (E k).toEnv := ctsOK (L.cons (values_Check.ok k) (L.cons (names_Check.ok k) L.nil))
theorem segs_ok : ∀ k, ∀ s ∈ [sg0 (s0 k), sg1 (s1 k)], SegB prog f111 0 s
  | 0 => (L.cons (sg_none (L.cons (fun _ _ => rfl) L.nil)) (L.cons (sg_none (L.cons (fun _ _ => rfl) L.nil)) L.nil))
  | k + 1 => (L.cons (sg_ok (hE k) (segs_ok k) (L.cons s0_ev L.nil)) (L.cons (sg_ok (hE k) (segs_ok k) (L.cons s1_ev L.nil)) L.nil))
theorem ok (k : Nat) : CtOK prog 111 (ct (f k)) := fn_okS hk (fn_ok func111 rfl (by decide) (hE k) (segs_ok k) (L.cons ev L.nil))
end schema_col
namespace names_count
def e (r : Int) : Res := ⟨.v (.one (.d (.int .i64) r)), []⟩
abbrev G : Type := ByteArray → (List ByteArray) → Option Int
def ct (g : G) : Ct := mkCt 0 [] [⟨[.d .str, .d (.sl .str)], [], fun x y => g x.1 x.2.1⟩] e
abbrev S0 : Type := ByteArray → Int → (List ByteArray) → Int → Int → Option Int
abbrev S1 : Type := ByteArray → Int → (List ByteArray) → Int → Int → Option Int
def sg0 (s : S0) : Seg := mkSg [4, 1, 0, 1, 1] [] [0, 5, 8, 9, 10] [⟨[.d .str, .d (.int .i64), .d (.sl .str), .d (.int .i64), .d (.int .i64)], [], fun x y => s x.1 x.2.1 x.2.2.1 x.2.2.2.1 x.2.2.2.2.1⟩] e
def sg1 (s : S1) : Seg := mkSg [1, 1, 1, 5, 4, 1, 0, 1, 1] [] [0, 5, 8, 9, 10] [⟨[.d .str, .d (.int .i64), .d (.sl .str), .d (.int .i64), .d (.int .i64)], [], fun x y => s x.1 x.2.1 x.2.2.1 x.2.2.2.1 x.2.2.2.2.1⟩] e
section
variable {β : Type} (s0 : S0) (s1 : S1)
noncomputable abbrev env : FEnv := mkEnv prog f138 [] 0 [] [sg0 s0, sg1 s1]
def c (a0 : ByteArray) (a1 : List ByteArray) (ret : Int → Option β) : Option β := ((s0 a0 (0 : Int) a1 ((List.length a1) : Int) (0 : Int)).bind ret)
def s0c (x0 : ByteArray) (x1 : Int) (x2 : List ByteArray) (x3 : Int) (x4 : Int) (ret : Int → Option β) : Option β := (bif (decide (x4 < x3)) then (bif ((decide ((0 : Int) ≤ x4)) && (decide (x4 < ((List.length x2) : Int)))) then (bif ((ByteArray.toList (elem Ty.str x2 x4)) == (ByteArray.toList x0)) then ((s1 x0 (IntKind.wrap IntKind.i64 (x1 + (1 : Int))) x2 x3 x4).bind ret) else ((s1 x0 x1 x2 x3 x4).bind ret)) else none) else (ret (x1)))
def s1c (x0 : ByteArray) (x1 : Int) (x2 : List ByteArray) (x3 : Int) (x4 : Int) (ret : Int → Option β) : Option β := ((s0 x0 x1 x2 x3 (IntKind.wrap IntKind.i64 (x4 + (1 : Int)))).bind ret)
variable {s0} {s1}
theorem ev : EvA (env s0 s1) [] [0, 1] e ⟨[.d .str, .d (.sl .str)], [], fun x y => c s0 x.1 x.2.1 some⟩ := fun x y => Eq.trans (b := c s0 x.1 x.2.1 fun r => some (e r)) (by kernel_rfl) (by simp only [c, bif_bind, sum_bind, oa, os, on, ofs])
theorem s0_ev : EvA (env s0 s1) [4, 1, 0, 1, 1] [0, 5, 8, 9, 10] e ⟨[.d .str, .d (.int .i64), .d (.sl .str), .d (.int .i64), .d (.int .i64)], [], fun x y => s0c s1 x.1 x.2.1 x.2.2.1 x.2.2.2.1 x.2.2.2.2.1 some⟩ := fun x y => Eq.trans (b := s0c s1 x.1 x.2.1 x.2.2.1 x.2.2.2.1 x.2.2.2.2.1 fun r => some (e r)) (by kernel_rfl) (by simp only [s0c, bif_bind, sum_bind, oa, os, on, ofs])
theorem s1_ev : EvA (env s0 s1) [1, 1, 1, 5, 4, 1, 0, 1, 1] [0, 5, 8, 9, 10] e ⟨[.d .str, .d (.int .i64), .d (.sl .str), .d (.int .i64), .d (.int .i64)], [], fun x y => s1c s0 x.1 x.2.1 x.2.2.1 x.2.2.2.1 x.2.2.2.2.1 some⟩ := fun x y => Eq.trans (b := s1c s0 x.1 x.2.1 x.2.2.1 x.2.2.2.1 x.2.2.2.2.1 fun r => some (e r)) (by kernel_rfl) (by simp only [s1c, bif_bind, sum_bind, oa, os, on, ofs])
end
mutual
def s0 : Nat → ByteArray → Int → (List ByteArray) → Int → Int → Option Int
  | 0, _, _, _, _, _ => none
  | k + 1, x0, x1, x2, x3, x4 => s0c (s1 k) x0 x1 x2 x3 x4 some
def s1 : Nat → ByteArray → Int → (List ByteArray) → Int → Int → Option Int
  | 0, _, _, _, _, _ => none
  | k + 1, x0, x1, x2, x3, x4 => s1c (s0 k) x0 x1 x2 x3 x4 some
end
def f (k : Nat) (a0 : ByteArray) (a1 : List ByteArray) : Option Int := c (s0 k) a0 a1 some
noncomputable abbrev E (k : Nat) : FEnv := env  (s0 k) (s1 k)
theorem hE (k : Nat) : EnvOK (E k).toEnv := ctsOK L.nil
theorem segs_ok : ∀ k, ∀ s ∈ [sg0 (s0 k), sg1 (s1 k)], SegB prog f138 0 s
  | 0 => (L.cons (sg_none (L.cons (fun _ _ => rfl) L.nil)) (L.cons (sg_none (L.cons (fun _ _ => rfl) L.nil)) L.nil))
  | k + 1 => (L.cons (sg_ok (hE k) (segs_ok k) (L.cons s0_ev L.nil)) (L.cons (sg_ok (hE k) (segs_ok k) (L.cons s1_ev L.nil)) L.nil))
theorem ok (k : Nat) : CtOK prog 138 (ct (f k)) := fn_ok func138 rfl (by decide) (hE k) (segs_ok k) (L.cons ev L.nil)
end names_count
namespace names_Unlike
def e (r : Bool) : Res := ⟨.v (.one (.d .bool r)), []⟩
abbrev G : Type := (List ByteArray) → Option Bool
def ct (g : G) : Ct := mkCt 0 [] [⟨[.d (.sl .str)], [], fun x y => g x.1⟩] e
abbrev S0 : Type := (List ByteArray) → (List ByteArray) → Int → Int → Option Bool
def sg0 (s : S0) : Seg := mkSg [4, 1, 0, 1] [] [0, 5, 6, 7] [⟨[.d (.sl .str), .d (.sl .str), .d (.int .i64), .d (.int .i64)], [], fun x y => s x.1 x.2.1 x.2.2.1 x.2.2.2.1⟩] e
section
variable {β : Type} (g138 : names_count.G) (s0 : S0)
noncomputable abbrev env : FEnv := mkEnv prog f112 [(138, names_count.ct g138)] 0 [] [sg0 s0]
def c (a0 : List ByteArray) (ret : Bool → Option β) : Option β := ((s0 a0 a0 ((List.length a0) : Int) (0 : Int)).bind ret)
def s0c (x0 : List ByteArray) (x1 : List ByteArray) (x2 : Int) (x3 : Int) (ret : Bool → Option β) : Option β := (bif (decide (x3 < x2)) then (bif ((decide ((0 : Int) ≤ x3)) && (decide (x3 < ((List.length x1) : Int)))) then ((g138 (elem Ty.str x1 x3) x0).bind fun r0 => (bif (decide (r0 > (1 : Int))) then (ret (false)) else ((s0 x0 x1 x2 (IntKind.wrap IntKind.i64 (x3 + (1 : Int)))).bind ret))) else none) else (ret (true)))
variable {g138} {s0}
theorem ev : EvA (env g138 s0) [] [0] e ⟨[.d (.sl .str)], [], fun x y => c s0 x.1 some⟩ := fun x y => Eq.trans (b := c s0 x.1 fun r => some (e r)) (by kernel_rfl) (by simp only [c, bif_bind, sum_bind, oa, os, on, ofs])
theorem s0_ev : EvA (env g138 s0) [4, 1, 0, 1] [0, 5, 6, 7] e ⟨[.d (.sl .str), .d (.sl .str), .d (.int .i64), .d (.int .i64)], [], fun x y => s0c g138 s0 x.1 x.2.1 x.2.2.1 x.2.2.2.1 some⟩ := fun x y => Eq.trans (b := s0c g138 s0 x.1 x.2.1 x.2.2.1 x.2.2.2.1 fun r => some (e r)) (by kernel_rfl) (by simp only [s0c, bif_bind, sum_bind, oa, os, on, ofs])
end
def s0 : Nat → (List ByteArray) → (List ByteArray) → Int → Int → Option Bool
  | 0, _, _, _, _ => none
  | k + 1, x0, x1, x2, x3 => s0c (names_count.f k) (s0 k) x0 x1 x2 x3 some
def f (k : Nat) (a0 : List ByteArray) : Option Bool := c (s0 k) a0 some
noncomputable abbrev E (k : Nat) : FEnv := env (names_count.f k) (s0 k)
theorem hE (k : Nat) : EnvOK (E k).toEnv := ctsOK (L.cons (names_count.ok k) L.nil)
theorem segs_ok : ∀ k, ∀ s ∈ [sg0 (s0 k)], SegB prog f112 0 s
  | 0 => (L.cons (sg_none (L.cons (fun _ _ => rfl) L.nil)) L.nil)
  | k + 1 => (L.cons (sg_ok (hE k) (segs_ok k) (L.cons s0_ev L.nil)) L.nil)
theorem ok (k : Nat) : CtOK prog 112 (ct (f k)) := fn_ok func112 rfl (by decide) (hE k) (segs_ok k) (L.cons ev L.nil)
end names_Unlike
namespace schema_words
def e (r : (List ByteArray)) : Res := ⟨.v (.one (.d (.sl .str) r)), []⟩
abbrev G : Type := (List D_api_Col) → Option ((List ByteArray))
def ct (g : G) : Ct := mkCt 0 [] [⟨[.d (.sl T_api_Col)], [], fun x y => g x.1⟩] e
abbrev S0 : Type := (List D_api_Col) → Int → Int → (List ByteArray) → Option ((List ByteArray))
def sg0 (s : S0) : Seg := mkSg [4, 1, 0, 1, 1] [] [3, 9, 10, 11] [⟨[.k (.own 0), .d (.sl T_api_Col), .d (.int .i64), .d (.int .i64)], [.own .str true], fun x y => s x.2.1 x.2.2.1 x.2.2.2.1 y.1⟩] e
section
variable {β : Type} (s0 : S0)
noncomputable abbrev env : FEnv := mkEnv prog f113 [] 0 [] [sg0 s0]
def c (a0 : List D_api_Col) (ret : ((List ByteArray)) → Option β) : Option β := (bif ((true && (decide (((List.length a0) : Int) ≤ ((List.length a0) : Int)))) && (decide ((((List.length a0) : Int) * (16 : Int)) ≤ (35184372088832 : Int)))) then ((s0 a0 ((List.length a0) : Int) (0 : Int) (List.replicate (Int.toNat ((List.length a0) : Int)) (ByteArray.mk (List.toArray [])))).bind ret) else none)
def s0c (x0 : List D_api_Col) (x1 : Int) (x2 : Int) (x3 : List ByteArray) (ret : ((List ByteArray)) → Option β) : Option β := (bif (decide (x2 < x1)) then (bif ((decide ((0 : Int) ≤ x2)) && (decide (x2 < ((List.length x0) : Int)))) then (bif ((decide ((0 : Int) ≤ x2)) && (decide (x2 < ((List.length x3) : Int)))) then ((s0 x0 x1 (IntKind.wrap IntKind.i64 (x2 + (1 : Int))) (List.set x3 (Int.toNat x2) (elem T_api_Col x0 x2).1)).bind ret) else none) else none) else (ret (x3)))
variable {s0}
theorem ev : EvA (env s0) [] [0] e ⟨[.d (.sl T_api_Col)], [], fun x y => c s0 x.1 some⟩ := fun x y => Eq.trans (b := c s0 x.1 fun r => some (e r)) (by kernel_rfl) (by simp only [c, bif_bind, sum_bind, oa, os, on, ofs])
theorem s0_ev : EvA (env s0) [4, 1, 0, 1, 1] [3, 9, 10, 11] e ⟨[.k (.own 0), .d (.sl T_api_Col), .d (.int .i64), .d (.int .i64)], [.own .str true], fun x y => s0c s0 x.2.1 x.2.2.1 x.2.2.2.1 y.1 some⟩ := fun x y => Eq.trans (b := s0c s0 x.2.1 x.2.2.1 x.2.2.2.1 y.1 fun r => some (e r)) (by kernel_rfl) (by simp only [s0c, bif_bind, sum_bind, oa, os, on, ofs])
end
def s0 : Nat → (List D_api_Col) → Int → Int → (List ByteArray) → Option ((List ByteArray))
  | 0, _, _, _, _ => none
  | k + 1, x0, x1, x2, x3 => s0c (s0 k) x0 x1 x2 x3 some
def f (k : Nat) (a0 : List D_api_Col) : Option ((List ByteArray)) := c (s0 k) a0 some
noncomputable abbrev E (k : Nat) : FEnv := env  (s0 k)
theorem hE (k : Nat) : EnvOK (E k).toEnv := ctsOK L.nil
theorem segs_ok : ∀ k, ∀ s ∈ [sg0 (s0 k)], SegB prog f113 0 s
  | 0 => (L.cons (sg_none (L.cons (fun _ _ => rfl) L.nil)) L.nil)
  | k + 1 => (L.cons (sg_ok (hE k) (segs_ok k) (L.cons s0_ev L.nil)) L.nil)
theorem ok (k : Nat) : CtOK prog 113 (ct (f k)) := fn_ok func113 rfl (by decide) (hE k) (segs_ok k) (L.cons ev L.nil)
end schema_words
namespace schema_table_1
def e (r : Bool) : Res := ⟨.v (.one (.d .bool r)), []⟩
abbrev G : Type := ByteArray → Int → Bool → Int → Int → Int → ByteArray → Option Bool
def ct (g : G) : Ct := mkCt 0 [] [⟨[.s T_api_Col], [], fun x y => g x.1.1.1 x.1.1.2.1 x.1.1.2.2.1 x.1.1.2.2.2.1.1 x.1.1.2.2.2.1.2.1 x.1.1.2.2.2.1.2.2.1 x.1.1.2.2.2.1.2.2.2.1⟩] e
section
variable {β : Type} 
noncomputable abbrev env : FEnv := mkEnv prog f115 [] 0 [] []
def c (a0 : ByteArray) (a1 : Int) (a2 : Bool) (a3 : Int) (a4 : Int) (a5 : Int) (a6 : ByteArray) (ret : Bool → Option β) : Option β := (ret (a2))
theorem ev : EvA (env) [] [0] e ⟨[.s T_api_Col], [], fun x y => c x.1.1.1 x.1.1.2.1 x.1.1.2.2.1 x.1.1.2.2.2.1.1 x.1.1.2.2.2.1.2.1 x.1.1.2.2.2.1.2.2.1 x.1.1.2.2.2.1.2.2.2.1 some⟩ := fun x y => Eq.trans (b := c x.1.1.1 x.1.1.2.1 x.1.1.2.2.1 x.1.1.2.2.2.1.1 x.1.1.2.2.2.1.2.1 x.1.1.2.2.2.1.2.2.1 x.1.1.2.2.2.1.2.2.2.1 fun r => some (e r)) (by kernel_rfl) (by simp only [c, bif_bind, sum_bind, oa, os, on, ofs])
end
def f (k : Nat) (a0 : ByteArray) (a1 : Int) (a2 : Bool) (a3 : Int) (a4 : Int) (a5 : Int) (a6 : ByteArray) : Option Bool := c  a0 a1 a2 a3 a4 a5 a6 some
noncomputable abbrev E (k : Nat) : FEnv := env  
theorem hE (k : Nat) : EnvOK (E k).toEnv := ctsOK L.nil
theorem ok (k : Nat) : CtOK prog 115 (ct (f k)) := fn_ok func115 rfl (by decide) (hE k) L.nil (L.cons ev L.nil)
end schema_table_1
end Go.Proofs.YtaehpfmnejeddaaGreatDoor.Aev
