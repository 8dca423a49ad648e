/- By a program of this session (AEV): functions of the program as plain functions, and that the machine does what they say. -/
import Derived.Test.YtaehpfmnejeddaaGreatDoorTys
import Derived.Test.YtaehpfmnejeddaaGreatDoorProg
import Derived.Laws.Externs
import Derived.Lib.Bytealg
import Derived.Test.YtaehpfmnejeddaaGreatDoorF6
namespace Go.Proofs.YtaehpfmnejeddaaGreatDoor.Aev
set_option linter.unusedVariables false
set_option linter.unusedSimpArgs false
set_option maxRecDepth 100000
set_option maxHeartbeats 4000000
open Go Go.Proofs.Tryz
namespace transomref03_Text
def e (r : ByteArray) : Res := ⟨.v (.one (.d .str r)), []⟩
abbrev G : Type := ByteArray → Option ByteArray
def ct (g : G) : Ct := mkCt 0 [] [⟨[.d .str], [], fun x y => g x.1⟩] e
section
variable {β : Type} (g37 : transomref03_Uint.G)
noncomputable abbrev env : FEnv := mkEnv prog f38 [(37, transomref03_Uint.ct g37)] 0 [] []
def c (a0 : ByteArray) (ret : ByteArray → Option β) : Option β := ((g37 (IntKind.wrap IntKind.u64 ((ByteArray.size a0) : Int))).bind fun r0 => (bif ((decide ((ByteArray.size r0) ≤ (4611686018427387903 : Nat))) && (decide ((ByteArray.size a0) ≤ (4611686018427387903 : Nat)))) then (ret ((r0 ++ a0))) else none))
variable {g37}
theorem ev : EvA (env g37) [] [0] e ⟨[.d .str], [], fun x y => c g37 x.1 some⟩ := fun x y => Eq.trans (b := c g37 x.1 fun r => some (e r)) (by kernel_rfl) (by simp only [c, bif_bind, sum_bind, oa, os, on, ofs])
end
def f (k : Nat) (a0 : ByteArray) : Option ByteArray := c (transomref03_Uint.f k) a0 some
noncomputable abbrev E (k : Nat) : FEnv := env (transomref03_Uint.f k) 
theorem hE (k : Nat) : EnvOK (E k).toEnv := ctsOK (L.cons (transomref03_Uint.ok k) L.nil)
theorem ok (k : Nat) : CtOK prog 38 (ct (f k)) := fn_ok func38 rfl (by decide) (hE k) L.nil (L.cons ev L.nil)
end transomref03_Text
namespace transomref08_letter
def e (r : Bool) : Res := ⟨.v (.one (.d .bool r)), []⟩
abbrev G : Type := Int → Option Bool
def ct (g : G) : Ct := mkCt 0 [] [⟨[.d (.int .u8)], [], fun x y => g x.1⟩] e
section
variable {β : Type} 
noncomputable abbrev env : FEnv := mkEnv prog f119 [] 0 [] []
def c (a0 : Int) (ret : Bool → Option β) : Option β := (bif (decide (a0 ≥ (97 : Int))) then (ret ((decide (a0 ≤ (122 : Int))))) else (ret (false)))
theorem ev : EvA (env) [] [0] e ⟨[.d (.int .u8)], [], fun x y => c x.1 some⟩ := fun x y => Eq.trans (b := c x.1 fun r => some (e r)) (by kernel_rfl) (by simp only [c, bif_bind, sum_bind, oa, os, on, ofs])
end
def f (k : Nat) (a0 : Int) : Option Bool := c  a0 some
noncomputable abbrev E (k : Nat) : FEnv := env  
theorem hE (k : Nat) : EnvOK (E k).toEnv := ctsOK L.nil
theorem ok (k : Nat) : CtOK prog 119 (ct (f k)) := fn_ok func119 rfl (by decide) (hE k) L.nil (L.cons ev L.nil)
end transomref08_letter
namespace transomref08_Check
def e (r : Int) : Res := ⟨.v (.one (.d (.int .i64) r)), []⟩
abbrev G : Type := ByteArray → Option Int
def ct (g : G) : Ct := mkCt 0 [] [⟨[.d .str], [], fun x y => g x.1⟩] e
abbrev S0 : Type := ByteArray → Bool → Option Int
abbrev S1 : Type := ByteArray → Option Int
abbrev S2 : Type := ByteArray → Int → Option Int
abbrev S3 : Type := ByteArray → Int → Bool → Option Int
abbrev S4 : Type := ByteArray → Int → Option Int
def sg0 (s : S0) : Seg := mkSg [1, 0, 1] [] [0, 17] [⟨[.d .str, .d .bool], [], fun x y => s x.1 x.2.1⟩] e
def sg1 (s : S1) : Seg := mkSg [1, 1] [] [0] [⟨[.d .str], [], fun x y => s x.1⟩] e
def sg2 (s : S2) : Seg := mkSg [4, 1, 0, 1, 1] [] [0, 3] [⟨[.d .str, .d (.int .i64)], [], fun x y => s x.1 x.2.1⟩] e
def sg3 (s : S3) : Seg := mkSg [1, 4, 0, 1, 5, 4, 1, 0, 1, 1] [] [0, 3, 46] [⟨[.d .str, .d (.int .i64), .d .bool], [], fun x y => s x.1 x.2.1 x.2.2.1⟩] e
def sg4 (s : S4) : Seg := mkSg [1, 1, 5, 4, 1, 0, 1, 1] [] [0, 3] [⟨[.d .str, .d (.int .i64)], [], fun x y => s x.1 x.2.1⟩] e
section
variable {β : Type} (g119 : transomref08_letter.G) (s0 : S0) (s1 : S1) (s2 : S2) (s3 : S3) (s4 : S4)
noncomputable abbrev env : FEnv := mkEnv prog f87 [(119, transomref08_letter.ct g119)] 0 [] [sg0 s0, sg1 s1, sg2 s2, sg3 s3, sg4 s4]
def c (a0 : ByteArray) (ret : Int → Option β) : Option β := (bif (decide (((ByteArray.size a0) : Int) < (1 : Int))) then ((s0 a0 true).bind ret) else (bif (decide (((ByteArray.size a0) : Int) > (16 : Int))) then ((s0 a0 true).bind ret) else (bif (true && (decide ((0 : Int) < ((ByteArray.size a0) : Int)))) then ((g119 (bt a0 (0 : Int))).bind fun r0 => ((s0 a0 (!r0)).bind ret)) else none)))
def s0c (x0 : ByteArray) (x1 : Bool) (ret : Int → Option β) : Option β := (bif x1 then (ret ((8 : Int))) else ((s1 x0).bind ret))
def s1c (x0 : ByteArray) (ret : Int → Option β) : Option β := ((s2 x0 (1 : Int)).bind ret)
def s2c (x0 : ByteArray) (x1 : Int) (ret : Int → Option β) : Option β := (bif (decide (x1 < ((ByteArray.size x0) : Int))) then (bif ((decide ((0 : Int) ≤ x1)) && (decide (x1 < ((ByteArray.size x0) : Int)))) then ((g119 (bt x0 x1)).bind fun r0 => (bif (!r0) then (bif ((decide ((0 : Int) ≤ x1)) && (decide (x1 < ((ByteArray.size x0) : Int)))) then (bif ((bt x0 x1) != (95 : Int)) then (bif ((decide ((0 : Int) ≤ x1)) && (decide (x1 < ((ByteArray.size x0) : Int)))) then (bif (decide ((bt x0 x1) < (48 : Int))) then ((s3 x0 x1 true).bind ret) else (bif ((decide ((0 : Int) ≤ x1)) && (decide (x1 < ((ByteArray.size x0) : Int)))) then ((s3 x0 x1 (decide ((bt x0 x1) > (57 : Int)))).bind ret) else none)) else none) else ((s3 x0 x1 false).bind ret)) else none) else ((s3 x0 x1 false).bind ret))) else none) else (ret ((0 : Int))))
def s3c (x0 : ByteArray) (x1 : Int) (x2 : Bool) (ret : Int → Option β) : Option β := (bif x2 then (ret ((8 : Int))) else ((s4 x0 x1).bind ret))
def s4c (x0 : ByteArray) (x1 : Int) (ret : Int → Option β) : Option β := ((s2 x0 (IntKind.wrap IntKind.i64 (x1 + (1 : Int)))).bind ret)
variable {g119} {s0} {s1} {s2} {s3} {s4}
theorem ev : EvA (env g119 s0 s1 s2 s3 s4) [] [0] e ⟨[.d .str], [], fun x y => c g119 s0 x.1 some⟩ := fun x y => Eq.trans (b := c g119 s0 x.1 fun r => some (e r)) (by kernel_rfl) (by simp only [c, bif_bind, sum_bind, oa, os, on, ofs])
theorem s0_ev : EvA (env g119 s0 s1 s2 s3 s4) [1, 0, 1] [0, 17] e ⟨[.d .str, .d .bool], [], fun x y => s0c s1 x.1 x.2.1 some⟩ := fun x y => Eq.trans (b := s0c s1 x.1 x.2.1 fun r => some (e r)) (by kernel_rfl) (by simp only [s0c, bif_bind, sum_bind, oa, os, on, ofs])
theorem s1_ev : EvA (env g119 s0 s1 s2 s3 s4) [1, 1] [0] e ⟨[.d .str], [], fun x y => s1c s2 x.1 some⟩ := fun x y => Eq.trans (b := s1c s2 x.1 fun r => some (e r)) (by kernel_rfl) (by simp only [s1c, bif_bind, sum_bind, oa, os, on, ofs])
theorem s2_ev : EvA (env g119 s0 s1 s2 s3 s4) [4, 1, 0, 1, 1] [0, 3] e ⟨[.d .str, .d (.int .i64)], [], fun x y => s2c g119 s3 x.1 x.2.1 some⟩ := fun x y => Eq.trans (b := s2c g119 s3 x.1 x.2.1 fun r => some (e r)) (by kernel_rfl) (by simp only [s2c, bif_bind, sum_bind, oa, os, on, ofs])
theorem s3_ev : EvA (env g119 s0 s1 s2 s3 s4) [1, 4, 0, 1, 5, 4, 1, 0, 1, 1] [0, 3, 46] e ⟨[.d .str, .d (.int .i64), .d .bool], [], fun x y => s3c s4 x.1 x.2.1 x.2.2.1 some⟩ := fun x y => Eq.trans (b := s3c s4 x.1 x.2.1 x.2.2.1 fun r => some (e r)) (by kernel_rfl) (by simp only [s3c, bif_bind, sum_bind, oa, os, on, ofs])
theorem s4_ev : EvA (env g119 s0 s1 s2 s3 s4) [1, 1, 5, 4, 1, 0, 1, 1] [0, 3] e ⟨[.d .str, .d (.int .i64)], [], fun x y => s4c s2 x.1 x.2.1 some⟩ := fun x y => Eq.trans (b := s4c s2 x.1 x.2.1 fun r => some (e r)) (by kernel_rfl) (by simp only [s4c, bif_bind, sum_bind, oa, os, on, ofs])
end
mutual
def s0 : Nat → ByteArray → Bool → Option Int
  | 0, _, _ => none
  | k + 1, x0, x1 => s0c (s1 k) x0 x1 some
def s1 : Nat → ByteArray → Option Int
  | 0, _ => none
  | k + 1, x0 => s1c (s2 k) x0 some
def s2 : Nat → ByteArray → Int → Option Int
  | 0, _, _ => none
  | k + 1, x0, x1 => s2c (transomref08_letter.f k) (s3 k) x0 x1 some
def s3 : Nat → ByteArray → Int → Bool → Option Int
  | 0, _, _, _ => none
  | k + 1, x0, x1, x2 => s3c (s4 k) x0 x1 x2 some
def s4 : Nat → ByteArray → Int → Option Int
  | 0, _, _ => none
  | k + 1, x0, x1 => s4c (s2 k) x0 x1 some
end
def f (k : Nat) (a0 : ByteArray) : Option Int := c (transomref08_letter.f k) (s0 k) a0 some
noncomputable abbrev E (k : Nat) : FEnv := env (transomref08_letter.f k) (s0 k) (s1 k) (s2 k) (s3 k) (s4 k)
theorem hE (k : Nat) : EnvOK (E k).toEnv := ctsOK (L.cons (transomref08_letter.ok k) L.nil)
theorem segs_ok : ∀ k, ∀ s ∈ [sg0 (s0 k), sg1 (s1 k), sg2 (s2 k), sg3 (s3 k), sg4 (s4 k)], SegB prog f87 0 s
  | 0 => (L.cons (sg_none (L.cons (fun _ _ => rfl) L.nil)) (L.cons (sg_none (L.cons (fun _ _ => rfl) L.nil)) (L.cons (sg_none (L.cons (fun _ _ => rfl) L.nil)) (L.cons (sg_none (L.cons (fun _ _ => rfl) L.nil)) (L.cons (sg_none (L.cons (fun _ _ => rfl) L.nil)) L.nil)))))
  | k + 1 => (L.cons (sg_ok (hE k) (segs_ok k) (L.cons s0_ev L.nil)) (L.cons (sg_ok (hE k) (segs_ok k) (L.cons s1_ev L.nil)) (L.cons (sg_ok (hE k) (segs_ok k) (L.cons s2_ev L.nil)) (L.cons (sg_ok (hE k) (segs_ok k) (L.cons s3_ev L.nil)) (L.cons (sg_ok (hE k) (segs_ok k) (L.cons s4_ev L.nil)) L.nil)))))
theorem ok (k : Nat) : CtOK prog 87 (ct (f k)) := fn_ok func87 rfl (by decide) (hE k) (segs_ok k) (L.cons ev L.nil)
end transomref08_Check
namespace transomref02_exponent
def e (r : Int) : Res := ⟨.v (.one (.d (.int .i64) r)), []⟩
abbrev G : Type := Int → Option Int
def ct (g : G) : Ct := mkCt 0 [] [⟨[.d (.int .u64)], [], fun x y => g x.1⟩] e
section
variable {β : Type} 
noncomputable abbrev env : FEnv := mkEnv prog f146 [] 0 [] []
def c (a0 : Int) (ret : Int → Option β) : Option β := (ret ((IntKind.wrap IntKind.i64 (IntKind.wrap IntKind.u64 ((BitVec.toNat ((BitVec.ofInt (64 : Nat) (Int.fdiv a0 (4503599627370496 : Int))) &&& (BitVec.ofInt (64 : Nat) (2047 : Int)))) : Int)))))
theorem ev : EvA (env) [] [0] e ⟨[.d (.int .u64)], [], fun x y => c x.1 some⟩ := fun x y => Eq.trans (b := c x.1 fun r => some (e r)) (by kernel_rfl) (by simp only [c, bif_bind, sum_bind, oa, os, on, ofs])
end
def f (k : Nat) (a0 : Int) : Option Int := c  a0 some
noncomputable abbrev E (k : Nat) : FEnv := env  
theorem hE (k : Nat) : EnvOK (E k).toEnv := ctsOK L.nil
theorem ok (k : Nat) : CtOK prog 146 (ct (f k)) := fn_ok func146 rfl (by decide) (hE k) L.nil (L.cons ev L.nil)
end transomref02_exponent
namespace transomref02_fraction
def e (r : Int) : Res := ⟨.v (.one (.d (.int .u64) r)), []⟩
abbrev G : Type := Int → Option Int
def ct (g : G) : Ct := mkCt 0 [] [⟨[.d (.int .u64)], [], fun x y => g x.1⟩] e
section
variable {β : Type} 
noncomputable abbrev env : FEnv := mkEnv prog f147 [] 0 [] []
def c (a0 : Int) (ret : Int → Option β) : Option β := (ret ((IntKind.wrap IntKind.u64 ((BitVec.toNat ((BitVec.ofInt (64 : Nat) a0) &&& (BitVec.ofInt (64 : Nat) (4503599627370495 : Int)))) : Int))))
theorem ev : EvA (env) [] [0] e ⟨[.d (.int .u64)], [], fun x y => c x.1 some⟩ := fun x y => Eq.trans (b := c x.1 fun r => some (e r)) (by kernel_rfl) (by simp only [c, bif_bind, sum_bind, oa, os, on, ofs])
end
def f (k : Nat) (a0 : Int) : Option Int := c  a0 some
noncomputable abbrev E (k : Nat) : FEnv := env  
theorem hE (k : Nat) : EnvOK (E k).toEnv := ctsOK L.nil
theorem ok (k : Nat) : CtOK prog 147 (ct (f k)) := fn_ok func147 rfl (by decide) (hE k) L.nil (L.cons ev L.nil)
end transomref02_fraction
namespace transomref02_Class
def e (r : Int) : Res := ⟨.v (.one (.d (.int .i64) r)), []⟩
abbrev G : Type := Int → Option Int
def ct (g : G) : Ct := mkCt 0 [] [⟨[.d (.int .u64)], [], fun x y => g x.1⟩] e
abbrev S0 : Type := Int → Bool → Option Int
def sg0 (s : S0) : Seg := mkSg [1, 4, 0, 1] [] [0, 3] [⟨[.d (.int .u64), .d .bool], [], fun x y => s x.1 x.2.1⟩] e
section
variable {β : Type} (g146 : transomref02_exponent.G) (g147 : transomref02_fraction.G) (s0 : S0)
noncomputable abbrev env : FEnv := mkEnv prog f128 [(146, transomref02_exponent.ct g146), (147, transomref02_fraction.ct g147)] 0 [] [sg0 s0]
def c (a0 : Int) (ret : Int → Option β) : Option β := ((g146 a0).bind fun r0 => (bif (r0 == (2047 : Int)) then ((g147 a0).bind fun r1 => ((s0 a0 (r1 != (0 : Int))).bind ret)) else ((s0 a0 false).bind ret)))
def s0c (x0 : Int) (x1 : Bool) (ret : Int → Option β) : Option β := (bif x1 then (ret ((1 : Int))) else ((g146 x0).bind fun r0 => (bif (r0 == (2047 : Int)) then (ret ((2 : Int))) else ((g146 x0).bind fun r1 => (bif (r1 == (0 : Int)) then ((g147 x0).bind fun r2 => (bif (r2 == (0 : Int)) then (ret ((3 : Int))) else ((g146 x0).bind fun r3 => (bif (r3 == (0 : Int)) then (ret ((4 : Int))) else (ret ((5 : Int))))))) else ((g146 x0).bind fun r4 => (bif (r4 == (0 : Int)) then (ret ((4 : Int))) else (ret ((5 : Int))))))))))
variable {g146} {g147} {s0}
theorem ev : EvA (env g146 g147 s0) [] [0] e ⟨[.d (.int .u64)], [], fun x y => c g146 g147 s0 x.1 some⟩ := fun x y => Eq.trans (b := c g146 g147 s0 x.1 fun r => some (e r)) (by kernel_rfl) (by simp only [c, bif_bind, sum_bind, oa, os, on, ofs])
theorem s0_ev : EvA (env g146 g147 s0) [1, 4, 0, 1] [0, 3] e ⟨[.d (.int .u64), .d .bool], [], fun x y => s0c g146 g147 x.1 x.2.1 some⟩ := fun x y => Eq.trans (b := s0c g146 g147 x.1 x.2.1 fun r => some (e r)) (by kernel_rfl) (by simp only [s0c, bif_bind, sum_bind, oa, os, on, ofs])
end
def s0 : Nat → Int → Bool → Option Int
  | 0, _, _ => none
  | k + 1, x0, x1 => s0c (transomref02_exponent.f k) (transomref02_fraction.f k) x0 x1 some
def f (k : Nat) (a0 : Int) : Option Int := c (transomref02_exponent.f k) (transomref02_fraction.f k) (s0 k) a0 some
noncomputable abbrev E (k : Nat) : FEnv := env (transomref02_exponent.f k) (transomref02_fraction.f k) (s0 k)
theorem hE (k : Nat) : EnvOK (E k).toEnv := ctsOK (L.cons (transomref02_exponent.ok k) (L.cons (transomref02_fraction.ok k) L.nil))
theorem segs_ok : ∀ k, ∀ s ∈ [sg0 (s0 k)], SegB prog f128 0 s
  | 0 => (L.cons (sg_none (L.cons (fun _ _ => rfl) L.nil)) L.nil)
  | k + 1 => (L.cons (sg_ok (hE k) (segs_ok k) (L.cons s0_ev L.nil)) L.nil)
theorem ok (k : Nat) : CtOK prog 128 (ct (f k)) := fn_ok func128 rfl (by decide) (hE k) (segs_ok k) (L.cons ev L.nil)
end transomref02_Class
namespace transomref02_Canon
def e (r : Int) : Res := ⟨.v (.one (.d (.int .u64) r)), []⟩
abbrev G : Type := Int → Option Int
def ct (g : G) : Ct := mkCt 0 [] [⟨[.d (.int .u64)], [], fun x y => g x.1⟩] e
section
variable {β : Type} (g128 : transomref02_Class.G)
noncomputable abbrev env : FEnv := mkEnv prog f104 [(128, transomref02_Class.ct g128)] 0 [] []
def c (a0 : Int) (ret : Int → Option β) : Option β := ((g128 a0).bind fun r0 => (bif (r0 == (1 : Int)) then (ret ((9221120237041090560 : Int))) else (ret (a0))))
variable {g128}
theorem ev : EvA (env g128) [] [0] e ⟨[.d (.int .u64)], [], fun x y => c g128 x.1 some⟩ := fun x y => Eq.trans (b := c g128 x.1 fun r => some (e r)) (by kernel_rfl) (by simp only [c, bif_bind, sum_bind, oa, os, on, ofs])
end
def f (k : Nat) (a0 : Int) : Option Int := c (transomref02_Class.f k) a0 some
noncomputable abbrev E (k : Nat) : FEnv := env (transomref02_Class.f k) 
theorem hE (k : Nat) : EnvOK (E k).toEnv := ctsOK (L.cons (transomref02_Class.ok k) L.nil)
theorem ok (k : Nat) : CtOK prog 104 (ct (f k)) := fn_ok func104 rfl (by decide) (hE k) L.nil (L.cons ev L.nil)
end transomref02_Canon
namespace transomref01_lead
def e (r : Int × Int) : Res := ⟨.tup [(.one (.d (.int .i64) r.1)), (.one (.d (.int .i64) r.2))], []⟩
abbrev G : Type := Int → Option (Int × Int)
def ct (g : G) : Ct := mkCt 0 [] [⟨[.d (.int .i64)], [], fun x y => g x.1⟩] e
abbrev S0 : Type := Int → Bool → Option (Int × Int)
abbrev S1 : Type := Int → Bool → Option (Int × Int)
def sg0 (s : S0) : Seg := mkSg [1, 3, 1, 4, 0, 1] [] [0, 8] [⟨[.d (.int .i64), .d .bool], [], fun x y => s x.1 x.2.1⟩] e
def sg1 (s : S1) : Seg := mkSg [1, 3, 1, 3, 1, 4, 0, 1] [] [0, 17] [⟨[.d (.int .i64), .d .bool], [], fun x y => s x.1 x.2.1⟩] e
section
variable {β : Type} (s0 : S0) (s1 : S1)
noncomputable abbrev env : FEnv := mkEnv prog f154 [] 0 [] [sg0 s0, sg1 s1]
def c (a0 : Int) (ret : (Int × Int) → Option β) : Option β := (bif (decide (a0 < (128 : Int))) then (ret ((1 : Int), a0)) else (bif (decide (a0 ≥ (192 : Int))) then ((s0 a0 (decide (a0 < (224 : Int)))).bind ret) else ((s0 a0 false).bind ret)))
def s0c (x0 : Int) (x1 : Bool) (ret : (Int × Int) → Option β) : Option β := (bif x1 then (ret ((2 : Int), (IntKind.wrap IntKind.i64 (x0 - (192 : Int))))) else (bif (decide (x0 ≥ (224 : Int))) then ((s1 x0 (decide (x0 < (240 : Int)))).bind ret) else ((s1 x0 false).bind ret)))
def s1c (x0 : Int) (x1 : Bool) (ret : (Int × Int) → Option β) : Option β := (bif x1 then (ret ((3 : Int), (IntKind.wrap IntKind.i64 (x0 - (224 : Int))))) else (bif (decide (x0 ≥ (240 : Int))) then (bif (decide (x0 < (248 : Int))) then (ret ((4 : Int), (IntKind.wrap IntKind.i64 (x0 - (240 : Int))))) else (ret ((0 : Int), (0 : Int)))) else (ret ((0 : Int), (0 : Int)))))
variable {s0} {s1}
theorem ev : EvA (env s0 s1) [] [0] e ⟨[.d (.int .i64)], [], fun x y => c s0 x.1 some⟩ := fun x y => Eq.trans (b := c s0 x.1 fun r => some (e r)) (by kernel_rfl) (by simp only [c, bif_bind, sum_bind, oa, os, on, ofs])
theorem s0_ev : EvA (env s0 s1) [1, 3, 1, 4, 0, 1] [0, 8] e ⟨[.d (.int .i64), .d .bool], [], fun x y => s0c s1 x.1 x.2.1 some⟩ := fun x y => Eq.trans (b := s0c s1 x.1 x.2.1 fun r => some (e r)) (by kernel_rfl) (by simp only [s0c, bif_bind, sum_bind, oa, os, on, ofs])
theorem s1_ev : EvA (env s0 s1) [1, 3, 1, 3, 1, 4, 0, 1] [0, 17] e ⟨[.d (.int .i64), .d .bool], [], fun x y => s1c x.1 x.2.1 some⟩ := fun x y => Eq.trans (b := s1c x.1 x.2.1 fun r => some (e r)) (by kernel_rfl) (by simp only [s1c, bif_bind, sum_bind, oa, os, on, ofs])
end
mutual
def s0 : Nat → Int → Bool → Option (Int × Int)
  | 0, _, _ => none
  | k + 1, x0, x1 => s0c (s1 k) x0 x1 some
def s1 : Nat → Int → Bool → Option (Int × Int)
  | 0, _, _ => none
  | k + 1, x0, x1 => s1c  x0 x1 some
end
def f (k : Nat) (a0 : Int) : Option (Int × Int) := c (s0 k) a0 some
noncomputable abbrev E (k : Nat) : FEnv := env  (s0 k) (s1 k)
theorem hE (k : Nat) : EnvOK (E k).toEnv := ctsOK L.nil
theorem segs_ok : ∀ k, ∀ s ∈ [sg0 (s0 k), sg1 (s1 k)], SegB prog f154 0 s
  | 0 => (L.cons (sg_none (L.cons (fun _ _ => rfl) L.nil)) (L.cons (sg_none (L.cons (fun _ _ => rfl) L.nil)) L.nil))
  | k + 1 => (L.cons (sg_ok (hE k) (segs_ok k) (L.cons s0_ev L.nil)) (L.cons (sg_ok (hE k) (segs_ok k) (L.cons s1_ev L.nil)) L.nil))
theorem ok (k : Nat) : CtOK prog 154 (ct (f k)) := fn_ok func154 rfl (by decide) (hE k) (segs_ok k) (L.cons ev L.nil)
end transomref01_lead
namespace transomref01_among
def e (r : Bool) : Res := ⟨.v (.one (.d .bool r)), []⟩
abbrev G : Type := Int → Int → Int → Option Bool
def ct (g : G) : Ct := mkCt 0 [] [⟨[.d (.int .i64), .d (.int .i64), .d (.int .i64)], [], fun x y => g x.1 x.2.1 x.2.2.1⟩] e
abbrev S0 : Type := Int → Int → Int → Int → Int → Option Bool
abbrev S1 : Type := Int → Int → Int → Int → Int → Option Bool
abbrev S2 : Type := Int → Int → Int → Int → Option Bool
def sg0 (s : S0) : Seg := mkSg [1, 1, 1] [] [0, 1, 2, 7, 8] [⟨[.d (.int .i64), .d (.int .i64), .d (.int .i64), .d (.int .i64), .d (.int .i64)], [], fun x y => s x.1 x.2.1 x.2.2.1 x.2.2.2.1 x.2.2.2.2.1⟩] e
def sg1 (s : S1) : Seg := mkSg [1, 1, 1, 1] [] [0, 1, 2, 7, 8] [⟨[.d (.int .i64), .d (.int .i64), .d (.int .i64), .d (.int .i64), .d (.int .i64)], [], fun x y => s x.1 x.2.1 x.2.2.1 x.2.2.2.1 x.2.2.2.2.1⟩] e
def sg2 (s : S2) : Seg := mkSg [1, 1, 1, 1, 1] [] [0, 1, 7, 8] [⟨[.d (.int .i64), .d (.int .i64), .d (.int .i64), .d (.int .i64)], [], fun x y => s x.1 x.2.1 x.2.2.1 x.2.2.2.1⟩] e
section
variable {β : Type} (s0 : S0) (s1 : S1) (s2 : S2)
noncomputable abbrev env : FEnv := mkEnv prog f155 [] 0 [] [sg0 s0, sg1 s1, sg2 s2]
def c (a0 : Int) (a1 : Int) (a2 : Int) (ret : Bool → Option β) : Option β := (bif (a2 == (2 : Int)) then ((s0 a0 a1 a2 (128 : Int) (2047 : Int)).bind ret) else ((s0 a0 a1 a2 (0 : Int) (127 : Int)).bind ret))
def s0c (x0 : Int) (x1 : Int) (x2 : Int) (x3 : Int) (x4 : Int) (ret : Bool → Option β) : Option β := (bif (x2 == (3 : Int)) then ((s1 x0 x1 x2 (2048 : Int) (65535 : Int)).bind ret) else ((s1 x0 x1 x2 x3 x4).bind ret))
def s1c (x0 : Int) (x1 : Int) (x2 : Int) (x3 : Int) (x4 : Int) (ret : Bool → Option β) : Option β := (bif (x2 == (4 : Int)) then ((s2 x0 x1 (65536 : Int) (1114111 : Int)).bind ret) else ((s2 x0 x1 x3 x4).bind ret))
def s2c (x0 : Int) (x1 : Int) (x2 : Int) (x3 : Int) (ret : Bool → Option β) : Option β := (bif (decide ((if (x2 > x0) then x2 else x0) > (if (x3 < x1) then x3 else x1))) then (ret (false)) else (bif (decide ((if (x2 > x0) then x2 else x0) < (55296 : Int))) then (ret (true)) else (ret ((decide ((if (x3 < x1) then x3 else x1) > (57343 : Int)))))))
variable {s0} {s1} {s2}
theorem ev : EvA (env s0 s1 s2) [] [0, 1, 2] e ⟨[.d (.int .i64), .d (.int .i64), .d (.int .i64)], [], fun x y => c s0 x.1 x.2.1 x.2.2.1 some⟩ := fun x y => Eq.trans (b := c s0 x.1 x.2.1 x.2.2.1 fun r => some (e r)) (by kernel_rfl) (by simp only [c, bif_bind, sum_bind, oa, os, on, ofs])
theorem s0_ev : EvA (env s0 s1 s2) [1, 1, 1] [0, 1, 2, 7, 8] e ⟨[.d (.int .i64), .d (.int .i64), .d (.int .i64), .d (.int .i64), .d (.int .i64)], [], fun x y => s0c s1 x.1 x.2.1 x.2.2.1 x.2.2.2.1 x.2.2.2.2.1 some⟩ := fun x y => Eq.trans (b := s0c s1 x.1 x.2.1 x.2.2.1 x.2.2.2.1 x.2.2.2.2.1 fun r => some (e r)) (by kernel_rfl) (by simp only [s0c, bif_bind, sum_bind, oa, os, on, ofs])
theorem s1_ev : EvA (env s0 s1 s2) [1, 1, 1, 1] [0, 1, 2, 7, 8] e ⟨[.d (.int .i64), .d (.int .i64), .d (.int .i64), .d (.int .i64), .d (.int .i64)], [], fun x y => s1c s2 x.1 x.2.1 x.2.2.1 x.2.2.2.1 x.2.2.2.2.1 some⟩ := fun x y => Eq.trans (b := s1c s2 x.1 x.2.1 x.2.2.1 x.2.2.2.1 x.2.2.2.2.1 fun r => some (e r)) (by kernel_rfl) (by simp only [s1c, bif_bind, sum_bind, oa, os, on, ofs])
theorem s2_ev : EvA (env s0 s1 s2) [1, 1, 1, 1, 1] [0, 1, 7, 8] e ⟨[.d (.int .i64), .d (.int .i64), .d (.int .i64), .d (.int .i64)], [], fun x y => s2c x.1 x.2.1 x.2.2.1 x.2.2.2.1 some⟩ := fun x y => Eq.trans (b := s2c x.1 x.2.1 x.2.2.1 x.2.2.2.1 fun r => some (e r)) (by kernel_rfl) (by simp only [s2c, bif_bind, sum_bind, oa, os, on, ofs])
end
mutual
def s0 : Nat → Int → Int → Int → Int → Int → Option Bool
  | 0, _, _, _, _, _ => none
  | k + 1, x0, x1, x2, x3, x4 => s0c (s1 k) x0 x1 x2 x3 x4 some
def s1 : Nat → Int → Int → Int → Int → Int → Option Bool
  | 0, _, _, _, _, _ => none
  | k + 1, x0, x1, x2, x3, x4 => s1c (s2 k) x0 x1 x2 x3 x4 some
def s2 : Nat → Int → Int → Int → Int → Option Bool
  | 0, _, _, _, _ => none
  | k + 1, x0, x1, x2, x3 => s2c  x0 x1 x2 x3 some
end
def f (k : Nat) (a0 : Int) (a1 : Int) (a2 : Int) : Option Bool := c (s0 k) a0 a1 a2 some
noncomputable abbrev E (k : Nat) : FEnv := env  (s0 k) (s1 k) (s2 k)
theorem hE (k : Nat) : EnvOK (E k).toEnv := ctsOK L.nil
theorem segs_ok : ∀ k, ∀ s ∈ [sg0 (s0 k), sg1 (s1 k), sg2 (s2 k)], SegB prog f155 0 s
  | 0 => (L.cons (sg_none (L.cons (fun _ _ => rfl) L.nil)) (L.cons (sg_none (L.cons (fun _ _ => rfl) L.nil)) (L.cons (sg_none (L.cons (fun _ _ => rfl) L.nil)) L.nil)))
  | k + 1 => (L.cons (sg_ok (hE k) (segs_ok k) (L.cons s0_ev L.nil)) (L.cons (sg_ok (hE k) (segs_ok k) (L.cons s1_ev L.nil)) (L.cons (sg_ok (hE k) (segs_ok k) (L.cons s2_ev L.nil)) L.nil)))
theorem ok (k : Nat) : CtOK prog 155 (ct (f k)) := fn_ok func155 rfl (by decide) (hE k) (segs_ok k) (L.cons ev L.nil)
end transomref01_among
namespace transomref01_Next
def e (r : Int × Int × Int) : Res := ⟨.tup [(.one (.d (.int .i64) r.1)), (.one (.d (.int .i64) r.2.1)), (.one (.d (.int .i64) r.2.2))], []⟩
abbrev G : Type := ByteArray → Option (Int × Int × Int)
def ct (g : G) : Ct := mkCt 0 [] [⟨[.d .str], [], fun x y => g x.1⟩] e
abbrev S0 : Type := ByteArray → Int → Int → Int → Int → Option (Int × Int × Int)
abbrev S1 : Type := ByteArray → Int → Int → Int → Int → Option (Int × Int × Int)
abbrev S2 : Type := ByteArray → Int → Int → Int → Int → Int → Bool → Option (Int × Int × Int)
abbrev S3 : Type := ByteArray → Int → Int → Int → Int → Int → Option (Int × Int × Int)
abbrev S4 : Type := ByteArray → Int → Int → Int → Int → Option (Int × Int × Int)
def sg0 (s : S0) : Seg := mkSg [4, 1, 0, 1, 1, 1, 1, 1] [] [0, 5, 6, 7, 8] [⟨[.d .str, .d (.int .i64), .d (.int .i64), .d (.int .i64), .d (.int .i64)], [], fun x y => s x.1 x.2.1 x.2.2.1 x.2.2.2.1 x.2.2.2.2.1⟩] e
def sg1 (s : S1) : Seg := mkSg [4, 1, 0, 1, 1, 1, 1, 1, 1, 1] [] [0, 5, 6, 7, 9] [⟨[.d .str, .d (.int .i64), .d (.int .i64), .d (.int .i64), .d (.int .i64)], [], fun x y => s x.1 x.2.1 x.2.2.1 x.2.2.2.1 x.2.2.2.2.1⟩] e
def sg2 (s : S2) : Seg := mkSg [1, 0, 1, 1, 4, 0, 1, 5, 4, 1, 0, 1, 1, 1, 1, 1, 1, 1] [] [0, 5, 6, 7, 9, 10, 60] [⟨[.d .str, .d (.int .i64), .d (.int .i64), .d (.int .i64), .d (.int .i64), .d (.int .i64), .d .bool], [], fun x y => s x.1 x.2.1 x.2.2.1 x.2.2.2.1 x.2.2.2.2.1 x.2.2.2.2.2.1 x.2.2.2.2.2.2.1⟩] e
def sg3 (s : S3) : Seg := mkSg [1, 1, 1, 4, 0, 1, 5, 4, 1, 0, 1, 1, 1, 1, 1, 1, 1] [] [0, 5, 6, 7, 9, 10] [⟨[.d .str, .d (.int .i64), .d (.int .i64), .d (.int .i64), .d (.int .i64), .d (.int .i64)], [], fun x y => s x.1 x.2.1 x.2.2.1 x.2.2.2.1 x.2.2.2.2.1 x.2.2.2.2.2.1⟩] e
def sg4 (s : S4) : Seg := mkSg [1, 1, 5, 4, 1, 0, 1, 1, 1, 1, 1, 1, 1] [] [0, 5, 6, 7, 9] [⟨[.d .str, .d (.int .i64), .d (.int .i64), .d (.int .i64), .d (.int .i64)], [], fun x y => s x.1 x.2.1 x.2.2.1 x.2.2.2.1 x.2.2.2.2.1⟩] e
section
variable {β : Type} (g154 : transomref01_lead.G) (g155 : transomref01_among.G) (s0 : S0) (s1 : S1) (s2 : S2) (s3 : S3) (s4 : S4)
noncomputable abbrev env : FEnv := mkEnv prog f148 [(154, transomref01_lead.ct g154), (155, transomref01_among.ct g155)] 0 [] [sg0 s0, sg1 s1, sg2 s2, sg3 s3, sg4 s4]
def c (a0 : ByteArray) (ret : (Int × Int × Int) → Option β) : Option β := (bif (((ByteArray.size a0) : Int) == (0 : Int)) then (ret ((0 : Int), (0 : Int), (3 : Int))) else (bif (true && (decide ((0 : Int) < ((ByteArray.size a0) : Int)))) then ((g154 (IntKind.wrap IntKind.i64 (bt a0 (0 : Int)))).bind fun r0 => (bif (r0.1 == (0 : Int)) then (ret ((0 : Int), (0 : Int), (7 : Int))) else ((s0 a0 r0.1 r0.2 (1 : Int) (1 : Int)).bind ret))) else none))
def s0c (x0 : ByteArray) (x1 : Int) (x2 : Int) (x3 : Int) (x4 : Int) (ret : (Int × Int × Int) → Option β) : Option β := (bif (decide (x4 < x1)) then ((s0 x0 x1 x2 (IntKind.wrap IntKind.i64 (x3 * (64 : Int))) (IntKind.wrap IntKind.i64 (x4 + (1 : Int)))).bind ret) else ((g155 (IntKind.wrap IntKind.i64 (x2 * x3)) (IntKind.wrap IntKind.i64 ((IntKind.wrap IntKind.i64 ((IntKind.wrap IntKind.i64 (x2 * x3)) + x3)) - (1 : Int))) x1).bind fun r0 => (bif (!r0) then (ret ((0 : Int), (0 : Int), (7 : Int))) else ((s1 x0 x1 x2 x3 (1 : Int)).bind ret))))
def s1c (x0 : ByteArray) (x1 : Int) (x2 : Int) (x3 : Int) (x4 : Int) (ret : (Int × Int × Int) → Option β) : Option β := (bif (decide (x4 < x1)) then (bif (decide (x4 ≥ ((ByteArray.size x0) : Int))) then (ret ((0 : Int), (0 : Int), (3 : Int))) else (bif ((decide ((0 : Int) ≤ x4)) && (decide (x4 < ((ByteArray.size x0) : Int)))) then (bif (decide ((IntKind.wrap IntKind.i64 (bt x0 x4)) < (128 : Int))) then ((s2 x0 x1 x2 x3 x4 (IntKind.wrap IntKind.i64 (bt x0 x4)) true).bind ret) else ((s2 x0 x1 x2 x3 x4 (IntKind.wrap IntKind.i64 (bt x0 x4)) (decide ((IntKind.wrap IntKind.i64 (bt x0 x4)) > (191 : Int)))).bind ret)) else none)) else (ret (x2, x1, (0 : Int))))
def s2c (x0 : ByteArray) (x1 : Int) (x2 : Int) (x3 : Int) (x4 : Int) (x5 : Int) (x6 : Bool) (ret : (Int × Int × Int) → Option β) : Option β := (bif x6 then (ret ((0 : Int), (0 : Int), (7 : Int))) else ((s3 x0 x1 x2 x3 x4 x5).bind ret))
def s3c (x0 : ByteArray) (x1 : Int) (x2 : Int) (x3 : Int) (x4 : Int) (x5 : Int) (ret : (Int × Int × Int) → Option β) : Option β := ((g155 (IntKind.wrap IntKind.i64 ((IntKind.wrap IntKind.i64 ((IntKind.wrap IntKind.i64 ((IntKind.wrap IntKind.i64 (x2 * (64 : Int))) + x5)) - (128 : Int))) * (IntKind.wrap IntKind.i64 (Int.tdiv x3 (64 : Int))))) (IntKind.wrap IntKind.i64 ((IntKind.wrap IntKind.i64 ((IntKind.wrap IntKind.i64 ((IntKind.wrap IntKind.i64 ((IntKind.wrap IntKind.i64 ((IntKind.wrap IntKind.i64 (x2 * (64 : Int))) + x5)) - (128 : Int))) * (IntKind.wrap IntKind.i64 (Int.tdiv x3 (64 : Int))))) + (IntKind.wrap IntKind.i64 (Int.tdiv x3 (64 : Int))))) - (1 : Int))) x1).bind fun r0 => (bif (!r0) then (ret ((0 : Int), (0 : Int), (7 : Int))) else ((s4 x0 x1 (IntKind.wrap IntKind.i64 ((IntKind.wrap IntKind.i64 ((IntKind.wrap IntKind.i64 (x2 * (64 : Int))) + x5)) - (128 : Int))) (IntKind.wrap IntKind.i64 (Int.tdiv x3 (64 : Int))) x4).bind ret)))
def s4c (x0 : ByteArray) (x1 : Int) (x2 : Int) (x3 : Int) (x4 : Int) (ret : (Int × Int × Int) → Option β) : Option β := ((s1 x0 x1 x2 x3 (IntKind.wrap IntKind.i64 (x4 + (1 : Int)))).bind ret)
variable {g154} {g155} {s0} {s1} {s2} {s3} {s4}
theorem ev : EvA (env g154 g155 s0 s1 s2 s3 s4) [] [0] e ⟨[.d .str], [], fun x y => c g154 s0 x.1 some⟩ := fun x y => Eq.trans (b := c g154 s0 x.1 fun r => some (e r)) (by kernel_rfl) (by simp only [c, bif_bind, sum_bind, oa, os, on, ofs])
theorem s0_ev : EvA (env g154 g155 s0 s1 s2 s3 s4) [4, 1, 0, 1, 1, 1, 1, 1] [0, 5, 6, 7, 8] e ⟨[.d .str, .d (.int .i64), .d (.int .i64), .d (.int .i64), .d (.int .i64)], [], fun x y => s0c g155 s0 s1 x.1 x.2.1 x.2.2.1 x.2.2.2.1 x.2.2.2.2.1 some⟩ := fun x y => Eq.trans (b := s0c g155 s0 s1 x.1 x.2.1 x.2.2.1 x.2.2.2.1 x.2.2.2.2.1 fun r => some (e r)) (by kernel_rfl) (by simp only [s0c, bif_bind, sum_bind, oa, os, on, ofs])
theorem s1_ev : EvA (env g154 g155 s0 s1 s2 s3 s4) [4, 1, 0, 1, 1, 1, 1, 1, 1, 1] [0, 5, 6, 7, 9] e ⟨[.d .str, .d (.int .i64), .d (.int .i64), .d (.int .i64), .d (.int .i64)], [], fun x y => s1c s2 x.1 x.2.1 x.2.2.1 x.2.2.2.1 x.2.2.2.2.1 some⟩ := fun x y => Eq.trans (b := s1c s2 x.1 x.2.1 x.2.2.1 x.2.2.2.1 x.2.2.2.2.1 fun r => some (e r)) (by kernel_rfl) (by simp only [s1c, bif_bind, sum_bind, oa, os, on, ofs])
theorem s2_ev : EvA (env g154 g155 s0 s1 s2 s3 s4) [1, 0, 1, 1, 4, 0, 1, 5, 4, 1, 0, 1, 1, 1, 1, 1, 1, 1] [0, 5, 6, 7, 9, 10, 60] e ⟨[.d .str, .d (.int .i64), .d (.int .i64), .d (.int .i64), .d (.int .i64), .d (.int .i64), .d .bool], [], fun x y => s2c s3 x.1 x.2.1 x.2.2.1 x.2.2.2.1 x.2.2.2.2.1 x.2.2.2.2.2.1 x.2.2.2.2.2.2.1 some⟩ := fun x y => Eq.trans (b := s2c s3 x.1 x.2.1 x.2.2.1 x.2.2.2.1 x.2.2.2.2.1 x.2.2.2.2.2.1 x.2.2.2.2.2.2.1 fun r => some (e r)) (by kernel_rfl) (by simp only [s2c, bif_bind, sum_bind, oa, os, on, ofs])
theorem s3_ev : EvA (env g154 g155 s0 s1 s2 s3 s4) [1, 1, 1, 4, 0, 1, 5, 4, 1, 0, 1, 1, 1, 1, 1, 1, 1] [0, 5, 6, 7, 9, 10] e ⟨[.d .str, .d (.int .i64), .d (.int .i64), .d (.int .i64), .d (.int .i64), .d (.int .i64)], [], fun x y => s3c g155 s4 x.1 x.2.1 x.2.2.1 x.2.2.2.1 x.2.2.2.2.1 x.2.2.2.2.2.1 some⟩ := fun x y => Eq.trans (b := s3c g155 s4 x.1 x.2.1 x.2.2.1 x.2.2.2.1 x.2.2.2.2.1 x.2.2.2.2.2.1 fun r => some (e r)) (by kernel_rfl) (by simp only [s3c, bif_bind, sum_bind, oa, os, on, ofs])
theorem s4_ev : EvA (env g154 g155 s0 s1 s2 s3 s4) [1, 1, 5, 4, 1, 0, 1, 1, 1, 1, 1, 1, 1] [0, 5, 6, 7, 9] e ⟨[.d .str, .d (.int .i64), .d (.int .i64), .d (.int .i64), .d (.int .i64)], [], fun x y => s4c s1 x.1 x.2.1 x.2.2.1 x.2.2.2.1 x.2.2.2.2.1 some⟩ := fun x y => Eq.trans (b := s4c s1 x.1 x.2.1 x.2.2.1 x.2.2.2.1 x.2.2.2.2.1 fun r => some (e r)) (by kernel_rfl) (by simp only [s4c, bif_bind, sum_bind, oa, os, on, ofs])
end
mutual
def s0 : Nat → ByteArray → Int → Int → Int → Int → Option (Int × Int × Int)
  | 0, _, _, _, _, _ => none
  | k + 1, x0, x1, x2, x3, x4 => s0c (transomref01_among.f k) (s0 k) (s1 k) x0 x1 x2 x3 x4 some
def s1 : Nat → ByteArray → Int → Int → Int → Int → Option (Int × Int × Int)
  | 0, _, _, _, _, _ => none
  | k + 1, x0, x1, x2, x3, x4 => s1c (s2 k) x0 x1 x2 x3 x4 some
def s2 : Nat → ByteArray → Int → Int → Int → Int → Int → Bool → Option (Int × Int × Int)
  | 0, _, _, _, _, _, _, _ => none
  | k + 1, x0, x1, x2, x3, x4, x5, x6 => s2c (s3 k) x0 x1 x2 x3 x4 x5 x6 some
def s3 : Nat → ByteArray → Int → Int → Int → Int → Int → Option (Int × Int × Int)
  | 0, _, _, _, _, _, _ => none
  | k + 1, x0, x1, x2, x3, x4, x5 => s3c (transomref01_among.f k) (s4 k) x0 x1 x2 x3 x4 x5 some
def s4 : Nat → ByteArray → Int → Int → Int → Int → Option (Int × Int × Int)
  | 0, _, _, _, _, _ => none
  | k + 1, x0, x1, x2, x3, x4 => s4c (s1 k) x0 x1 x2 x3 x4 some
end
def f (k : Nat) (a0 : ByteArray) : Option (Int × Int × Int) := c (transomref01_lead.f k) (s0 k) a0 some
noncomputable abbrev E (k : Nat) : FEnv := env (transomref01_lead.f k) (transomref01_among.f k) (s0 k) (s1 k) (s2 k) (s3 k) (s4 k)
theorem hE (k : Nat) : EnvOK (E k).toEnv := ctsOK (L.cons (transomref01_lead.ok k) (L.cons (transomref01_among.ok k) L.nil))
theorem segs_ok : ∀ k, ∀ s ∈ [sg0 (s0 k), sg1 (s1 k), sg2 (s2 k), sg3 (s3 k), sg4 (s4 k)], SegB prog f148 0 s
  | 0 => (L.cons (sg_none (L.cons (fun _ _ => rfl) L.nil)) (L.cons (sg_none (L.cons (fun _ _ => rfl) L.nil)) (L.cons (sg_none (L.cons (fun _ _ => rfl) L.nil)) (L.cons (sg_none (L.cons (fun _ _ => rfl) L.nil)) (L.cons (sg_none (L.cons (fun _ _ => rfl) L.nil)) L.nil)))))
  | k + 1 => (L.cons (sg_ok (hE k) (segs_ok k) (L.cons s0_ev L.nil)) (L.cons (sg_ok (hE k) (segs_ok k) (L.cons s1_ev L.nil)) (L.cons (sg_ok (hE k) (segs_ok k) (L.cons s2_ev L.nil)) (L.cons (sg_ok (hE k) (segs_ok k) (L.cons s3_ev L.nil)) (L.cons (sg_ok (hE k) (segs_ok k) (L.cons s4_ev L.nil)) L.nil)))))
theorem ok (k : Nat) : CtOK prog 148 (ct (f k)) := fn_ok func148 rfl (by decide) (hE k) (segs_ok k) (L.cons ev L.nil)
end transomref01_Next
namespace transomref01_Count
def e (r : Int) : Res := ⟨.v (.one (.d (.int .i64) r)), []⟩
abbrev G : Type := ByteArray → Option Int
def ct (g : G) : Ct := mkCt 0 [] [⟨[.d .str], [], fun x y => g x.1⟩] e
abbrev S0 : Type := ByteArray → Int → Int → Option Int
def sg0 (s : S0) : Seg := mkSg [4, 1, 0, 1, 1] [] [0, 3, 4] [⟨[.d .str, .d (.int .i64), .d (.int .i64)], [], fun x y => s x.1 x.2.1 x.2.2.1⟩] e
section
variable {β : Type} (g148 : transomref01_Next.G) (s0 : S0)
noncomputable abbrev env : FEnv := mkEnv prog f129 [(148, transomref01_Next.ct g148)] 0 [] [sg0 s0]
def c (a0 : ByteArray) (ret : Int → Option β) : Option β := ((s0 a0 (0 : Int) (0 : Int)).bind ret)
def s0c (x0 : ByteArray) (x1 : Int) (x2 : Int) (ret : Int → Option β) : Option β := (bif (decide (x2 < ((ByteArray.size x0) : Int))) then (bif (((decide ((0 : Int) ≤ x2)) && (decide (x2 ≤ ((ByteArray.size x0) : Int)))) && (decide (((ByteArray.size x0) : Int) ≤ ((ByteArray.size x0) : Int)))) then ((g148 (ByteArray.extract x0 (Int.toNat x2) (Int.toNat ((ByteArray.size x0) : Int)))).bind fun r0 => (bif (r0.2.2 != (0 : Int)) then (ret ((-1 : Int))) else ((s0 x0 (IntKind.wrap IntKind.i64 (x1 + (1 : Int))) (IntKind.wrap IntKind.i64 (x2 + r0.2.1))).bind ret))) else none) else (ret (x1)))
variable {g148} {s0}
theorem ev : EvA (env g148 s0) [] [0] e ⟨[.d .str], [], fun x y => c s0 x.1 some⟩ := fun x y => Eq.trans (b := c s0 x.1 fun r => some (e r)) (by kernel_rfl) (by simp only [c, bif_bind, sum_bind, oa, os, on, ofs])
theorem s0_ev : EvA (env g148 s0) [4, 1, 0, 1, 1] [0, 3, 4] e ⟨[.d .str, .d (.int .i64), .d (.int .i64)], [], fun x y => s0c g148 s0 x.1 x.2.1 x.2.2.1 some⟩ := fun x y => Eq.trans (b := s0c g148 s0 x.1 x.2.1 x.2.2.1 fun r => some (e r)) (by kernel_rfl) (by simp only [s0c, bif_bind, sum_bind, oa, os, on, ofs])
end
def s0 : Nat → ByteArray → Int → Int → Option Int
  | 0, _, _, _ => none
  | k + 1, x0, x1, x2 => s0c (transomref01_Next.f k) (s0 k) x0 x1 x2 some
def f (k : Nat) (a0 : ByteArray) : Option Int := c (s0 k) a0 some
noncomputable abbrev E (k : Nat) : FEnv := env (transomref01_Next.f k) (s0 k)
theorem hE (k : Nat) : EnvOK (E k).toEnv := ctsOK (L.cons (transomref01_Next.ok k) L.nil)
theorem segs_ok : ∀ k, ∀ s ∈ [sg0 (s0 k)], SegB prog f129 0 s
  | 0 => (L.cons (sg_none (L.cons (fun _ _ => rfl) L.nil)) L.nil)
  | k + 1 => (L.cons (sg_ok (hE k) (segs_ok k) (L.cons s0_ev L.nil)) L.nil)
theorem ok (k : Nat) : CtOK prog 129 (ct (f k)) := fn_ok func129 rfl (by decide) (hE k) (segs_ok k) (L.cons ev L.nil)
end transomref01_Count
namespace transomref01_Valid
def e (r : Bool) : Res := ⟨.v (.one (.d .bool r)), []⟩
abbrev G : Type := ByteArray → Option Bool
def ct (g : G) : Ct := mkCt 0 [] [⟨[.d .str], [], fun x y => g x.1⟩] e
section
variable {β : Type} (g129 : transomref01_Count.G)
noncomputable abbrev env : FEnv := mkEnv prog f105 [(129, transomref01_Count.ct g129)] 0 [] []
def c (a0 : ByteArray) (ret : Bool → Option β) : Option β := ((g129 a0).bind fun r0 => (ret ((decide (r0 ≥ (0 : Int))))))
variable {g129}
theorem ev : EvA (env g129) [] [0] e ⟨[.d .str], [], fun x y => c g129 x.1 some⟩ := fun x y => Eq.trans (b := c g129 x.1 fun r => some (e r)) (by kernel_rfl) (by simp only [c, bif_bind, sum_bind, oa, os, on, ofs])
end
def f (k : Nat) (a0 : ByteArray) : Option Bool := c (transomref01_Count.f k) a0 some
noncomputable abbrev E (k : Nat) : FEnv := env (transomref01_Count.f k) 
theorem hE (k : Nat) : EnvOK (E k).toEnv := ctsOK (L.cons (transomref01_Count.ok k) L.nil)
theorem ok (k : Nat) : CtOK prog 105 (ct (f k)) := fn_ok func105 rfl (by decide) (hE k) L.nil (L.cons ev L.nil)
end transomref01_Valid
namespace transomref04_Check
def e (r : Int) : Res := ⟨.v (.one (.d (.int .i64) r)), []⟩
abbrev G : Type := Int → Int → Int → ByteArray → Option Int
def ct (g : G) : Ct := mkCt 0 [] [⟨[.s T_api_Value], [], fun x y => g x.1.1.1 x.1.1.2.1 x.1.1.2.2.1 x.1.1.2.2.2.1⟩] e
abbrev S0 : Type := Bool → Int → Int → Int → ByteArray → Option Int
abbrev S1 : Type := Bool → Bool → Int → Int → Int → ByteArray → Option Int
abbrev S2 : Type := Bool → Bool → Bool → Int → Int → Int → ByteArray → Option Int
abbrev S3 : Type := Bool → Int → Int → Int → ByteArray → Option Int
abbrev S4 : Type := Bool → Int → Int → Int → ByteArray → Option Int
abbrev S5 : Type := Bool → Int → Int → Int → ByteArray → Option Int
def sg0 (s : S0) : Seg := mkSg [1, 1] [] [1, 3] [⟨[.k (.ptr 0 0), .d .bool], [.box [.g T_api_Value]], fun x y => s x.2.1 y.1.1.1 y.1.1.2.1 y.1.1.2.2.1 y.1.1.2.2.2.1⟩] e
def sg1 (s : S1) : Seg := mkSg [1, 1, 1] [] [1, 3, 4] [⟨[.k (.ptr 0 0), .d .bool, .d .bool], [.box [.g T_api_Value]], fun x y => s x.2.1 x.2.2.1 y.1.1.1 y.1.1.2.1 y.1.1.2.2.1 y.1.1.2.2.2.1⟩] e
def sg2 (s : S2) : Seg := mkSg [1, 4, 0, 1, 1, 1] [] [1, 3, 4, 21] [⟨[.k (.ptr 0 0), .d .bool, .d .bool, .d .bool], [.box [.g T_api_Value]], fun x y => s x.2.1 x.2.2.1 x.2.2.2.1 y.1.1.1 y.1.1.2.1 y.1.1.2.2.1 y.1.1.2.2.2.1⟩] e
def sg3 (s : S3) : Seg := mkSg [1, 3, 1, 4, 0, 1, 1, 1] [] [1, 30] [⟨[.k (.ptr 0 0), .d .bool], [.box [.g T_api_Value]], fun x y => s x.2.1 y.1.1.1 y.1.1.2.1 y.1.1.2.2.1 y.1.1.2.2.2.1⟩] e
def sg4 (s : S4) : Seg := mkSg [1, 3, 1, 3, 1, 4, 0, 1, 1, 1] [] [1, 57] [⟨[.k (.ptr 0 0), .d .bool], [.box [.g T_api_Value]], fun x y => s x.2.1 y.1.1.1 y.1.1.2.1 y.1.1.2.2.1 y.1.1.2.2.2.1⟩] e
def sg5 (s : S5) : Seg := mkSg [1, 3, 1, 3, 1, 3, 1, 4, 0, 1, 1, 1] [] [1, 71] [⟨[.k (.ptr 0 0), .d .bool], [.box [.g T_api_Value]], fun x y => s x.2.1 y.1.1.1 y.1.1.2.1 y.1.1.2.2.1 y.1.1.2.2.2.1⟩] e
section
variable {β : Type} (g104 : transomref02_Canon.G) (g105 : transomref01_Valid.G) (s0 : S0) (s1 : S1) (s2 : S2) (s3 : S3) (s4 : S4) (s5 : S5)
noncomputable abbrev env : FEnv := mkEnv prog f76 [(104, transomref02_Canon.ct g104), (105, transomref01_Valid.ct g105)] 0 [] [sg0 s0, sg1 s1, sg2 s2, sg3 s3, sg4 s4, sg5 s5]
def c (a0 : Int) (a1 : Int) (a2 : Int) (a3 : ByteArray) (ret : Int → Option β) : Option β := (bif (a0 == (1 : Int)) then ((s0 true a0 a1 a2 a3).bind ret) else ((s0 (a0 == (2 : Int)) a0 a1 a2 a3).bind ret))
def s0c (x0 : Bool) (x1 : Int) (x2 : Int) (x3 : Int) (x4 : ByteArray) (ret : Int → Option β) : Option β := (bif (x1 == (4 : Int)) then ((s1 x0 true x1 x2 x3 x4).bind ret) else ((s1 x0 (x1 == (5 : Int)) x1 x2 x3 x4).bind ret))
def s1c (x0 : Bool) (x1 : Bool) (x2 : Int) (x3 : Int) (x4 : Int) (x5 : ByteArray) (ret : Int → Option β) : Option β := (bif (decide (x2 < (0 : Int))) then ((s2 x0 x1 true x2 x3 x4 x5).bind ret) else ((s2 x0 x1 (decide (x2 > (5 : Int))) x2 x3 x4 x5).bind ret))
def s2c (x0 : Bool) (x1 : Bool) (x2 : Bool) (x3 : Int) (x4 : Int) (x5 : Int) (x6 : ByteArray) (ret : Int → Option β) : Option β := (bif x2 then (ret ((5 : Int))) else (bif (x4 != (0 : Int)) then (bif (!x0) then ((s3 true x3 x4 x5 x6).bind ret) else (bif (x5 != (0 : Int)) then (bif (x3 != (3 : Int)) then ((s3 true x3 x4 x5 x6).bind ret) else (bif (!((ByteArray.toList x6) == (ByteArray.toList (ByteArray.mk (List.toArray []))))) then ((s3 (!x1) x3 x4 x5 x6).bind ret) else ((s3 false x3 x4 x5 x6).bind ret))) else (bif (!((ByteArray.toList x6) == (ByteArray.toList (ByteArray.mk (List.toArray []))))) then ((s3 (!x1) x3 x4 x5 x6).bind ret) else ((s3 false x3 x4 x5 x6).bind ret)))) else (bif (x5 != (0 : Int)) then (bif (x3 != (3 : Int)) then ((s3 true x3 x4 x5 x6).bind ret) else (bif (!((ByteArray.toList x6) == (ByteArray.toList (ByteArray.mk (List.toArray []))))) then ((s3 (!x1) x3 x4 x5 x6).bind ret) else ((s3 false x3 x4 x5 x6).bind ret))) else (bif (!((ByteArray.toList x6) == (ByteArray.toList (ByteArray.mk (List.toArray []))))) then ((s3 (!x1) x3 x4 x5 x6).bind ret) else ((s3 false x3 x4 x5 x6).bind ret)))))
def s3c (x0 : Bool) (x1 : Int) (x2 : Int) (x3 : Int) (x4 : ByteArray) (ret : Int → Option β) : Option β := (bif x0 then (ret ((4 : Int))) else (bif (x1 == (1 : Int)) then (bif (x2 != (0 : Int)) then ((s4 (x2 != (1 : Int)) x1 x2 x3 x4).bind ret) else ((s4 false x1 x2 x3 x4).bind ret)) else ((s4 false x1 x2 x3 x4).bind ret)))
def s4c (x0 : Bool) (x1 : Int) (x2 : Int) (x3 : Int) (x4 : ByteArray) (ret : Int → Option β) : Option β := (bif x0 then (ret ((6 : Int))) else (bif (x1 == (3 : Int)) then ((g104 x3).bind fun r0 => ((s5 (r0 != x3) x1 x2 x3 x4).bind ret)) else ((s5 false x1 x2 x3 x4).bind ret)))
def s5c (x0 : Bool) (x1 : Int) (x2 : Int) (x3 : Int) (x4 : ByteArray) (ret : Int → Option β) : Option β := (bif x0 then (ret ((4 : Int))) else (bif (decide (((ByteArray.size x4) : Int) > (64 : Int))) then (ret ((2 : Int))) else (bif (x1 == (5 : Int)) then ((g105 x4).bind fun r0 => (bif (!r0) then (ret ((7 : Int))) else (ret ((0 : Int))))) else (ret ((0 : Int))))))
variable {g104} {g105} {s0} {s1} {s2} {s3} {s4} {s5}
theorem ev : EvA (env g104 g105 s0 s1 s2 s3 s4 s5) [] [0] e ⟨[.s T_api_Value], [], fun x y => c s0 x.1.1.1 x.1.1.2.1 x.1.1.2.2.1 x.1.1.2.2.2.1 some⟩ := fun x y => Eq.trans (b := c s0 x.1.1.1 x.1.1.2.1 x.1.1.2.2.1 x.1.1.2.2.2.1 fun r => some (e r)) (by kernel_rfl) (by simp only [c, bif_bind, sum_bind, oa, os, on, ofs])
theorem s0_ev : EvA (env g104 g105 s0 s1 s2 s3 s4 s5) [1, 1] [1, 3] e ⟨[.k (.ptr 0 0), .d .bool], [.box [.g T_api_Value]], fun x y => s0c s1 x.2.1 y.1.1.1 y.1.1.2.1 y.1.1.2.2.1 y.1.1.2.2.2.1 some⟩ := fun x y => Eq.trans (b := s0c s1 x.2.1 y.1.1.1 y.1.1.2.1 y.1.1.2.2.1 y.1.1.2.2.2.1 fun r => some (e r)) (by kernel_rfl) (by simp only [s0c, bif_bind, sum_bind, oa, os, on, ofs])
theorem s1_ev : EvA (env g104 g105 s0 s1 s2 s3 s4 s5) [1, 1, 1] [1, 3, 4] e ⟨[.k (.ptr 0 0), .d .bool, .d .bool], [.box [.g T_api_Value]], fun x y => s1c s2 x.2.1 x.2.2.1 y.1.1.1 y.1.1.2.1 y.1.1.2.2.1 y.1.1.2.2.2.1 some⟩ := fun x y => Eq.trans (b := s1c s2 x.2.1 x.2.2.1 y.1.1.1 y.1.1.2.1 y.1.1.2.2.1 y.1.1.2.2.2.1 fun r => some (e r)) (by kernel_rfl) (by simp only [s1c, bif_bind, sum_bind, oa, os, on, ofs])
theorem s2_ev : EvA (env g104 g105 s0 s1 s2 s3 s4 s5) [1, 4, 0, 1, 1, 1] [1, 3, 4, 21] e ⟨[.k (.ptr 0 0), .d .bool, .d .bool, .d .bool], [.box [.g T_api_Value]], fun x y => s2c s3 x.2.1 x.2.2.1 x.2.2.2.1 y.1.1.1 y.1.1.2.1 y.1.1.2.2.1 y.1.1.2.2.2.1 some⟩ := fun x y => Eq.trans (b := s2c s3 x.2.1 x.2.2.1 x.2.2.2.1 y.1.1.1 y.1.1.2.1 y.1.1.2.2.1 y.1.1.2.2.2.1 fun r => some (e r)) (by kernel_rfl) (by simp only [s2c, bif_bind, sum_bind, oa, os, on, ofs])
theorem s3_ev : EvA (env g104 g105 s0 s1 s2 s3 s4 s5) [1, 3, 1, 4, 0, 1, 1, 1] [1, 30] e ⟨[.k (.ptr 0 0), .d .bool], [.box [.g T_api_Value]], fun x y => s3c s4 x.2.1 y.1.1.1 y.1.1.2.1 y.1.1.2.2.1 y.1.1.2.2.2.1 some⟩ := fun x y => Eq.trans (b := s3c s4 x.2.1 y.1.1.1 y.1.1.2.1 y.1.1.2.2.1 y.1.1.2.2.2.1 fun r => some (e r)) (by kernel_rfl) (by simp only [s3c, bif_bind, sum_bind, oa, os, on, ofs])
theorem s4_ev : EvA (env g104 g105 s0 s1 s2 s3 s4 s5) [1, 3, 1, 3, 1, 4, 0, 1, 1, 1] [1, 57] e ⟨[.k (.ptr 0 0), .d .bool], [.box [.g T_api_Value]], fun x y => s4c g104 s5 x.2.1 y.1.1.1 y.1.1.2.1 y.1.1.2.2.1 y.1.1.2.2.2.1 some⟩ := fun x y => Eq.trans (b := s4c g104 s5 x.2.1 y.1.1.1 y.1.1.2.1 y.1.1.2.2.1 y.1.1.2.2.2.1 fun r => some (e r)) (by kernel_rfl) (by simp only [s4c, bif_bind, sum_bind, oa, os, on, ofs])
theorem s5_ev : EvA (env g104 g105 s0 s1 s2 s3 s4 s5) [1, 3, 1, 3, 1, 3, 1, 4, 0, 1, 1, 1] [1, 71] e ⟨[.k (.ptr 0 0), .d .bool], [.box [.g T_api_Value]], fun x y => s5c g105 x.2.1 y.1.1.1 y.1.1.2.1 y.1.1.2.2.1 y.1.1.2.2.2.1 some⟩ := fun x y => Eq.trans (b := s5c g105 x.2.1 y.1.1.1 y.1.1.2.1 y.1.1.2.2.1 y.1.1.2.2.2.1 fun r => some (e r)) (by kernel_rfl) (by simp only [s5c, bif_bind, sum_bind, oa, os, on, ofs])
end
mutual
def s0 : Nat → Bool → Int → Int → Int → ByteArray → Option Int
  | 0, _, _, _, _, _ => none
  | k + 1, x0, x1, x2, x3, x4 => s0c (s1 k) x0 x1 x2 x3 x4 some
def s1 : Nat → Bool → Bool → Int → Int → Int → ByteArray → Option Int
  | 0, _, _, _, _, _, _ => none
  | k + 1, x0, x1, x2, x3, x4, x5 => s1c (s2 k) x0 x1 x2 x3 x4 x5 some
def s2 : Nat → Bool → Bool → Bool → Int → Int → Int → ByteArray → Option Int
  | 0, _, _, _, _, _, _, _ => none
  | k + 1, x0, x1, x2, x3, x4, x5, x6 => s2c (s3 k) x0 x1 x2 x3 x4 x5 x6 some
def s3 : Nat → Bool → Int → Int → Int → ByteArray → Option Int
  | 0, _, _, _, _, _ => none
  | k + 1, x0, x1, x2, x3, x4 => s3c (s4 k) x0 x1 x2 x3 x4 some
def s4 : Nat → Bool → Int → Int → Int → ByteArray → Option Int
  | 0, _, _, _, _, _ => none
  | k + 1, x0, x1, x2, x3, x4 => s4c (transomref02_Canon.f k) (s5 k) x0 x1 x2 x3 x4 some
def s5 : Nat → Bool → Int → Int → Int → ByteArray → Option Int
  | 0, _, _, _, _, _ => none
  | k + 1, x0, x1, x2, x3, x4 => s5c (transomref01_Valid.f k) x0 x1 x2 x3 x4 some
end
def f (k : Nat) (a0 : Int) (a1 : Int) (a2 : Int) (a3 : ByteArray) : Option Int := c (s0 k) a0 a1 a2 a3 some
noncomputable abbrev E (k : Nat) : FEnv := env (transomref02_Canon.f k) (transomref01_Valid.f k) (s0 k) (s1 k) (s2 k) (s3 k) (s4 k) (s5 k)
theorem hE (k : Nat) : EnvOK (E k).toEnv := ctsOK (L.cons (transomref02_Canon.ok k) (L.cons (transomref01_Valid.ok k) L.nil))
theorem segs_ok : ∀ k, ∀ s ∈ [sg0 (s0 k), sg1 (s1 k), sg2 (s2 k), sg3 (s3 k), sg4 (s4 k), sg5 (s5 k)], SegB prog f76 0 s
  | 0 => (L.cons (sg_none (L.cons (fun _ _ => rfl) L.nil)) (L.cons (sg_none (L.cons (fun _ _ => rfl) L.nil)) (L.cons (sg_none (L.cons (fun _ _ => rfl) L.nil)) (L.cons (sg_none (L.cons (fun _ _ => rfl) L.nil)) (L.cons (sg_none (L.cons (fun _ _ => rfl) L.nil)) (L.cons (sg_none (L.cons (fun _ _ => rfl) L.nil)) L.nil))))))
  | k + 1 => (L.cons (sg_ok (hE k) (segs_ok k) (L.cons s0_ev L.nil)) (L.cons (sg_ok (hE k) (segs_ok k) (L.cons s1_ev L.nil)) (L.cons (sg_ok (hE k) (segs_ok k) (L.cons s2_ev L.nil)) (L.cons (sg_ok (hE k) (segs_ok k) (L.cons s3_ev L.nil)) (L.cons (sg_ok (hE k) (segs_ok k) (L.cons s4_ev L.nil)) (L.cons (sg_ok (hE k) (segs_ok k) (L.cons s5_ev L.nil)) L.nil))))))
theorem ok (k : Nat) : CtOK prog 76 (ct (f k)) := fn_ok func76 rfl (by decide) (hE k) (segs_ok k) (L.cons ev L.nil)
end transomref04_Check
end Go.Proofs.YtaehpfmnejeddaaGreatDoor.Aev
