/- By a program of this session (AEV): functions of the program as plain functions, and that the machine does what they say. -/
import Derived.Test.YtaehpfmnejeddaaGreatDoorTys
import Derived.Test.YtaehpfmnejeddaaGreatDoorProg
import Derived.Laws.Externs
import Derived.Lib.Bytealg
import Derived.Test.YtaehpfmnejeddaaGreatDoorAevY
import Derived.Below
import Derived.LaidEql
import Derived.RowKitTokens
import Derived.Stop.Asserts
import Derived.WalkKit
namespace Go.Proofs.YtaehpfmnejeddaaGreatDoor.Aev
set_option linter.unusedVariables false
set_option linter.unusedSimpArgs false
set_option maxRecDepth 100000
set_option maxHeartbeats 4000000
open Go Go.Proofs.Tryz
namespace transomlaw08_Few
def e (r : Int) : Res := ⟨.v (.one (.d (.int .i64) r)), []⟩
abbrev G : Type := (List ByteArray) → Option Int
def ct (g : G) : Ct := mkCt 0 [] [⟨[.d (.sl .str)], [], fun x y => g x.1⟩] e
abbrev S0 : Type := (List ByteArray) → Int → Option Int
def sg0 (s : S0) : Seg := mkSg [4, 1, 0, 1, 1] [] [0, 3] [⟨[.d (.sl .str), .d (.int .i64)], [], fun x y => s x.1 x.2.1⟩] e
section
variable {β : Type} (s0 : S0)
noncomputable abbrev env : FEnv := mkEnv prog f25 [] 0 [] [sg0 s0]
def c (a0 : List ByteArray) (ret : Int → Option β) : Option β := (bif (decide (((List.length a0) : Int) > (60 : Int))) then (ret ((0 : Int))) else ((s0 a0 (0 : Int)).bind ret))
def s0c (x0 : List ByteArray) (x1 : Int) (ret : Int → Option β) : Option β := (bif (decide (x1 < ((List.length x0) : Int))) then (bif ((decide ((0 : Int) ≤ x1)) && (decide (x1 < ((List.length x0) : Int)))) then (bif (decide (((ByteArray.size (elem Ty.str x0 x1)) : Int) > (500 : Int))) then (ret ((0 : Int))) else ((s0 x0 (IntKind.wrap IntKind.i64 (x1 + (1 : Int)))).bind ret)) else none) else (ret ((1 : Int))))
variable {s0}
theorem ev : EvA (env s0) [] [0] e ⟨[.d (.sl .str)], [], fun x y => c s0 x.1 some⟩ := fun x y => Eq.trans (b := c s0 x.1 fun r => some (e r)) (by kernel_rfl) (by simp only [c, bif_bind, sum_bind, oa, os, on, ofs])
theorem s0_ev : EvA (env s0) [4, 1, 0, 1, 1] [0, 3] e ⟨[.d (.sl .str), .d (.int .i64)], [], fun x y => s0c s0 x.1 x.2.1 some⟩ := fun x y => Eq.trans (b := s0c s0 x.1 x.2.1 fun r => some (e r)) (by kernel_rfl) (by simp only [s0c, bif_bind, sum_bind, oa, os, on, ofs])
end
def s0 : Nat → (List ByteArray) → Int → Option Int
  | 0, _, _ => none
  | k + 1, x0, x1 => s0c (s0 k) x0 x1 some
def f (k : Nat) (a0 : List ByteArray) : Option Int := c (s0 k) a0 some
noncomputable abbrev E (k : Nat) : FEnv := env  (s0 k)
theorem hE (k : Nat) : EnvOK (E k).toEnv := ctsOK L.nil
theorem segs_ok : ∀ k, ∀ s ∈ [sg0 (s0 k)], SegB prog f25 0 s
  | 0 => (L.cons (sg_none (L.cons (fun _ _ => rfl) L.nil)) L.nil)
  | k + 1 => (L.cons (sg_ok (hE k) (segs_ok k) (L.cons s0_ev L.nil)) L.nil)
theorem ok (k : Nat) : CtOK prog 25 (ct (f k)) := fn_ok func25 rfl (by decide) (hE k) (segs_ok k) (L.cons ev L.nil)
end transomlaw08_Few
namespace transomlaw04_Few
def e (r : Int) : Res := ⟨.v (.one (.d (.int .i64) r)), []⟩
abbrev G : Type := Int → Int → Int → ByteArray → Option Int
def ct (g : G) : Ct := mkCt 0 [] [⟨[.s T_api_Value], [], fun x y => g x.1.1.1 x.1.1.2.1 x.1.1.2.2.1 x.1.1.2.2.2.1⟩] e
section
variable {β : Type} 
noncomputable abbrev env : FEnv := mkEnv prog f27 [] 0 [] []
def c (a0 : Int) (a1 : Int) (a2 : Int) (a3 : ByteArray) (ret : Int → Option β) : Option β := (bif (decide (((ByteArray.size a3) : Int) > (2000 : Int))) then (ret ((0 : Int))) else (ret ((1 : Int))))
theorem ev : EvA (env) [] [0] e ⟨[.s T_api_Value], [], fun x y => c x.1.1.1 x.1.1.2.1 x.1.1.2.2.1 x.1.1.2.2.2.1 some⟩ := fun x y => Eq.trans (b := c x.1.1.1 x.1.1.2.1 x.1.1.2.2.1 x.1.1.2.2.2.1 fun r => some (e r)) (by kernel_rfl) (by simp only [c, bif_bind, sum_bind, oa, os, on, ofs])
end
def f (k : Nat) (a0 : Int) (a1 : Int) (a2 : Int) (a3 : ByteArray) : Option Int := c  a0 a1 a2 a3 some
noncomputable abbrev E (k : Nat) : FEnv := env  
theorem hE (k : Nat) : EnvOK (E k).toEnv := ctsOK L.nil
theorem ok (k : Nat) : CtOK prog 27 (ct (f k)) := fn_ok func27 rfl (by decide) (hE k) L.nil (L.cons ev L.nil)
end transomlaw04_Few
namespace transomlaw09_Few
def e (r : Int) : Res := ⟨.v (.one (.d (.int .i64) r)), []⟩
abbrev G : Type := ByteArray → Int → (List D_api_Col) → Option Int
def ct (g : G) : Ct := mkCt 0 [] [⟨[.s T_api_Table], [], fun x y => g x.1.1.1 x.1.1.2.1 x.1.1.2.2.1⟩] e
abbrev S0 : Type := Bool → ByteArray → Int → (List D_api_Col) → Option Int
abbrev S1 : Type := ByteArray → Int → (List D_api_Col) → Option Int
abbrev S2 : Type := Int → ByteArray → Int → (List D_api_Col) → Option Int
abbrev S3 : Type := Int → Bool → ByteArray → Int → (List D_api_Col) → Option Int
abbrev S4 : Type := Int → ByteArray → Int → (List D_api_Col) → Option Int
def sg0 (s : S0) : Seg := mkSg [1, 0, 1] [] [1, 13] [⟨[.k (.ptr 0 0), .d .bool], [.box [.g T_api_Table]], fun x y => s x.2.1 y.1.1.1 y.1.1.2.1 y.1.1.2.2.1⟩] e
def sg1 (s : S1) : Seg := mkSg [1, 1] [] [1] [⟨[.k (.ptr 0 0)], [.box [.g T_api_Table]], fun x y => s y.1.1.1 y.1.1.2.1 y.1.1.2.2.1⟩] e
def sg2 (s : S2) : Seg := mkSg [4, 1, 0, 1, 1] [] [1, 3] [⟨[.k (.ptr 0 0), .d (.int .i64)], [.box [.g T_api_Table]], fun x y => s x.2.1 y.1.1.1 y.1.1.2.1 y.1.1.2.2.1⟩] e
def sg3 (s : S3) : Seg := mkSg [1, 4, 0, 1, 5, 4, 1, 0, 1, 1] [] [1, 3, 38] [⟨[.k (.ptr 0 0), .d (.int .i64), .d .bool], [.box [.g T_api_Table]], fun x y => s x.2.1 x.2.2.1 y.1.1.1 y.1.1.2.1 y.1.1.2.2.1⟩] e
def sg4 (s : S4) : Seg := mkSg [1, 1, 5, 4, 1, 0, 1, 1] [] [1, 3] [⟨[.k (.ptr 0 0), .d (.int .i64)], [.box [.g T_api_Table]], fun x y => s x.2.1 y.1.1.1 y.1.1.2.1 y.1.1.2.2.1⟩] e
section
variable {β : Type} (g27 : transomlaw04_Few.G) (s0 : S0) (s1 : S1) (s2 : S2) (s3 : S3) (s4 : S4)
noncomputable abbrev env : FEnv := mkEnv prog f26 [(27, transomlaw04_Few.ct g27)] 0 [] [sg0 s0, sg1 s1, sg2 s2, sg3 s3, sg4 s4]
def c (a0 : ByteArray) (a1 : Int) (a2 : List D_api_Col) (ret : Int → Option β) : Option β := (bif (decide (((List.length a2) : Int) > (20 : Int))) then ((s0 true a0 a1 a2).bind ret) else ((s0 (decide (((ByteArray.size a0) : Int) > (500 : Int))) a0 a1 a2).bind ret))
def s0c (x0 : Bool) (x1 : ByteArray) (x2 : Int) (x3 : List D_api_Col) (ret : Int → Option β) : Option β := (bif x0 then (ret ((0 : Int))) else ((s1 x1 x2 x3).bind ret))
def s1c (x0 : ByteArray) (x1 : Int) (x2 : List D_api_Col) (ret : Int → Option β) : Option β := ((s2 (0 : Int) x0 x1 x2).bind ret)
def s2c (x0 : Int) (x1 : ByteArray) (x2 : Int) (x3 : List D_api_Col) (ret : Int → Option β) : Option β := (bif (decide (x0 < ((List.length x3) : Int))) then (bif ((decide ((0 : Int) ≤ x0)) && (decide (x0 < ((List.length x3) : Int)))) then (bif (decide (((ByteArray.size (elem T_api_Col x3 x0).1) : Int) > (500 : Int))) then ((s3 x0 true x1 x2 x3).bind ret) else (bif ((decide ((0 : Int) ≤ x0)) && (decide (x0 < ((List.length x3) : Int)))) then ((g27 (elem T_api_Col x3 x0).2.2.2.1.1 (elem T_api_Col x3 x0).2.2.2.1.2.1 (elem T_api_Col x3 x0).2.2.2.1.2.2.1 (elem T_api_Col x3 x0).2.2.2.1.2.2.2.1).bind fun r0 => ((s3 x0 (r0 == (0 : Int)) x1 x2 x3).bind ret)) else none)) else none) else (ret ((1 : Int))))
def s3c (x0 : Int) (x1 : Bool) (x2 : ByteArray) (x3 : Int) (x4 : List D_api_Col) (ret : Int → Option β) : Option β := (bif x1 then (ret ((0 : Int))) else ((s4 x0 x2 x3 x4).bind ret))
def s4c (x0 : Int) (x1 : ByteArray) (x2 : Int) (x3 : List D_api_Col) (ret : Int → Option β) : Option β := ((s2 (IntKind.wrap IntKind.i64 (x0 + (1 : Int))) x1 x2 x3).bind ret)
variable {g27} {s0} {s1} {s2} {s3} {s4}
theorem ev : EvA (env g27 s0 s1 s2 s3 s4) [] [0] e ⟨[.s T_api_Table], [], fun x y => c s0 x.1.1.1 x.1.1.2.1 x.1.1.2.2.1 some⟩ := fun x y => Eq.trans (b := c s0 x.1.1.1 x.1.1.2.1 x.1.1.2.2.1 fun r => some (e r)) (by kernel_rfl) (by simp only [c, bif_bind, sum_bind, oa, os, on, ofs])
theorem s0_ev : EvA (env g27 s0 s1 s2 s3 s4) [1, 0, 1] [1, 13] e ⟨[.k (.ptr 0 0), .d .bool], [.box [.g T_api_Table]], fun x y => s0c s1 x.2.1 y.1.1.1 y.1.1.2.1 y.1.1.2.2.1 some⟩ := fun x y => Eq.trans (b := s0c s1 x.2.1 y.1.1.1 y.1.1.2.1 y.1.1.2.2.1 fun r => some (e r)) (by kernel_rfl) (by simp only [s0c, bif_bind, sum_bind, oa, os, on, ofs])
theorem s1_ev : EvA (env g27 s0 s1 s2 s3 s4) [1, 1] [1] e ⟨[.k (.ptr 0 0)], [.box [.g T_api_Table]], fun x y => s1c s2 y.1.1.1 y.1.1.2.1 y.1.1.2.2.1 some⟩ := fun x y => Eq.trans (b := s1c s2 y.1.1.1 y.1.1.2.1 y.1.1.2.2.1 fun r => some (e r)) (by kernel_rfl) (by simp only [s1c, bif_bind, sum_bind, oa, os, on, ofs])
theorem s2_ev : EvA (env g27 s0 s1 s2 s3 s4) [4, 1, 0, 1, 1] [1, 3] e ⟨[.k (.ptr 0 0), .d (.int .i64)], [.box [.g T_api_Table]], fun x y => s2c g27 s3 x.2.1 y.1.1.1 y.1.1.2.1 y.1.1.2.2.1 some⟩ := fun x y => Eq.trans (b := s2c g27 s3 x.2.1 y.1.1.1 y.1.1.2.1 y.1.1.2.2.1 fun r => some (e r)) (by kernel_rfl) (by simp only [s2c, bif_bind, sum_bind, oa, os, on, ofs])
theorem s3_ev : EvA (env g27 s0 s1 s2 s3 s4) [1, 4, 0, 1, 5, 4, 1, 0, 1, 1] [1, 3, 38] e ⟨[.k (.ptr 0 0), .d (.int .i64), .d .bool], [.box [.g T_api_Table]], fun x y => s3c s4 x.2.1 x.2.2.1 y.1.1.1 y.1.1.2.1 y.1.1.2.2.1 some⟩ := fun x y => Eq.trans (b := s3c s4 x.2.1 x.2.2.1 y.1.1.1 y.1.1.2.1 y.1.1.2.2.1 fun r => some (e r)) (by kernel_rfl) (by simp only [s3c, bif_bind, sum_bind, oa, os, on, ofs])
theorem s4_ev : EvA (env g27 s0 s1 s2 s3 s4) [1, 1, 5, 4, 1, 0, 1, 1] [1, 3] e ⟨[.k (.ptr 0 0), .d (.int .i64)], [.box [.g T_api_Table]], fun x y => s4c s2 x.2.1 y.1.1.1 y.1.1.2.1 y.1.1.2.2.1 some⟩ := fun x y => Eq.trans (b := s4c s2 x.2.1 y.1.1.1 y.1.1.2.1 y.1.1.2.2.1 fun r => some (e r)) (by kernel_rfl) (by simp only [s4c, bif_bind, sum_bind, oa, os, on, ofs])
end
mutual
def s0 : Nat → Bool → ByteArray → Int → (List D_api_Col) → Option Int
  | 0, _, _, _, _ => none
  | k + 1, x0, x1, x2, x3 => s0c (s1 k) x0 x1 x2 x3 some
def s1 : Nat → ByteArray → Int → (List D_api_Col) → Option Int
  | 0, _, _, _ => none
  | k + 1, x0, x1, x2 => s1c (s2 k) x0 x1 x2 some
def s2 : Nat → Int → ByteArray → Int → (List D_api_Col) → Option Int
  | 0, _, _, _, _ => none
  | k + 1, x0, x1, x2, x3 => s2c (transomlaw04_Few.f k) (s3 k) x0 x1 x2 x3 some
def s3 : Nat → Int → Bool → ByteArray → Int → (List D_api_Col) → Option Int
  | 0, _, _, _, _, _ => none
  | k + 1, x0, x1, x2, x3, x4 => s3c (s4 k) x0 x1 x2 x3 x4 some
def s4 : Nat → Int → ByteArray → Int → (List D_api_Col) → Option Int
  | 0, _, _, _, _ => none
  | k + 1, x0, x1, x2, x3 => s4c (s2 k) x0 x1 x2 x3 some
end
def f (k : Nat) (a0 : ByteArray) (a1 : Int) (a2 : List D_api_Col) : Option Int := c (s0 k) a0 a1 a2 some
noncomputable abbrev E (k : Nat) : FEnv := env (transomlaw04_Few.f k) (s0 k) (s1 k) (s2 k) (s3 k) (s4 k)
theorem hE (k : Nat) : EnvOK (E k).toEnv := ctsOK (L.cons (transomlaw04_Few.ok k) L.nil)
theorem segs_ok : ∀ k, ∀ s ∈ [sg0 (s0 k), sg1 (s1 k), sg2 (s2 k), sg3 (s3 k), sg4 (s4 k)], SegB prog f26 0 s
  | 0 => (L.cons (sg_none (L.cons (fun _ _ => rfl) L.nil)) (L.cons (sg_none (L.cons (fun _ _ => rfl) L.nil)) (L.cons (sg_none (L.cons (fun _ _ => rfl) L.nil)) (L.cons (sg_none (L.cons (fun _ _ => rfl) L.nil)) (L.cons (sg_none (L.cons (fun _ _ => rfl) L.nil)) L.nil)))))
  | k + 1 => (L.cons (sg_ok (hE k) (segs_ok k) (L.cons s0_ev L.nil)) (L.cons (sg_ok (hE k) (segs_ok k) (L.cons s1_ev L.nil)) (L.cons (sg_ok (hE k) (segs_ok k) (L.cons s2_ev L.nil)) (L.cons (sg_ok (hE k) (segs_ok k) (L.cons s3_ev L.nil)) (L.cons (sg_ok (hE k) (segs_ok k) (L.cons s4_ev L.nil)) L.nil)))))
theorem ok (k : Nat) : CtOK prog 26 (ct (f k)) := fn_ok func26 rfl (by decide) (hE k) (segs_ok k) (L.cons ev L.nil)
end transomlaw09_Few
namespace transomlaw10_Few
def e (r : Int) : Res := ⟨.v (.one (.d (.int .i64) r)), []⟩
abbrev G : Type := D_api_Change → Option Int
def ct (g : G) : Ct := mkCt 0 [] [⟨[.s T_api_Change], [], fun x y => g x.1.1⟩] e
section
variable {β : Type} (g25 : transomlaw08_Few.G) (g26 : transomlaw09_Few.G) (g27 : transomlaw04_Few.G)
noncomputable abbrev env : FEnv := mkEnv prog f8 [(25, transomlaw08_Few.ct g25), (26, transomlaw09_Few.ct g26), (27, transomlaw04_Few.ct g27)] 0 [] []
def c (a0 : D_api_Change) (ret : Int → Option β) : Option β := ((g25 a0.2.2.2.2.2.2.2.1).bind fun r0 => (bif (r0 == (0 : Int)) then (ret ((0 : Int))) else ((g25 [a0.2.1, a0.2.2.1, a0.2.2.2.1, a0.2.2.2.2.1, a0.2.2.2.2.2.1, a0.2.2.2.2.2.2.2.2.1.1]).bind fun r1 => (bif (r1 == (0 : Int)) then (ret ((0 : Int))) else ((g26 a0.2.2.2.2.2.2.2.2.2.1.1 a0.2.2.2.2.2.2.2.2.2.1.2.1 a0.2.2.2.2.2.2.2.2.2.1.2.2.1).bind fun r2 => (bif (r2 == (0 : Int)) then (ret ((0 : Int))) else ((g27 a0.2.2.2.2.2.2.2.2.1.2.2.2.1.1 a0.2.2.2.2.2.2.2.2.1.2.2.2.1.2.1 a0.2.2.2.2.2.2.2.2.1.2.2.2.1.2.2.1 a0.2.2.2.2.2.2.2.2.1.2.2.2.1.2.2.2.1).bind fun r3 => (bif (r3 == (0 : Int)) then (ret ((0 : Int))) else (ret ((1 : Int)))))))))))
variable {g25} {g26} {g27}
theorem ev : EvA (env g25 g26 g27) [] [0] e ⟨[.s T_api_Change], [], fun x y => c g25 g26 g27 x.1.1 some⟩ := fun x y => Eq.trans (b := c g25 g26 g27 x.1.1 fun r => some (e r)) (by kernel_rfl) (by simp only [c, bif_bind, sum_bind, oa, os, on, ofs])
end
def f (k : Nat) (a0 : D_api_Change) : Option Int := c (transomlaw08_Few.f k) (transomlaw09_Few.f k) (transomlaw04_Few.f k) a0 some
noncomputable abbrev E (k : Nat) : FEnv := env (transomlaw08_Few.f k) (transomlaw09_Few.f k) (transomlaw04_Few.f k) 
theorem hE (k : Nat) : EnvOK (E k).toEnv := ctsOK (L.cons (transomlaw08_Few.ok k) (L.cons (transomlaw09_Few.ok k) (L.cons (transomlaw04_Few.ok k) L.nil)))
theorem ok (k : Nat) : CtOK prog 8 (ct (f k)) := fn_ok func8 rfl (by decide) (hE k) L.nil (L.cons ev L.nil)
end transomlaw10_Few
namespace ops_texts
def e0 (r : D_api_Change) : Res := ⟨.v (.agg [(.ptr 0 1), (.ptr 0 2), (.ptr 0 3), (.ptr 0 4), (.ptr 0 5)]), [some (.box (flat T_api_Change r))]⟩
abbrev G0 : Type := D_api_Change → Option D_api_Change
def e1 (r : Int × ByteArray × ByteArray × ByteArray × ByteArray × ByteArray × Int × ByteArray × Int × Bool × Int × Int × Int × ByteArray × ByteArray × Int) : Res := ⟨.v (.agg [(.ptr 0 1), (.ptr 0 2), (.ptr 0 3), (.ptr 0 4), (.ptr 0 5)]), [some (.box [(.d (.int .i64) r.1), (.d .str r.2.1), (.d .str r.2.2.1), (.d .str r.2.2.2.1), (.d .str r.2.2.2.2.1), (.d .str r.2.2.2.2.2.1), (.d (.int .i64) r.2.2.2.2.2.2.1), (.raw (.slice none 0 0)), (.d .str r.2.2.2.2.2.2.2.1), (.d (.int .i64) r.2.2.2.2.2.2.2.2.1), (.d .bool r.2.2.2.2.2.2.2.2.2.1), (.d (.int .i64) r.2.2.2.2.2.2.2.2.2.2.1), (.d (.int .i64) r.2.2.2.2.2.2.2.2.2.2.2.1), (.d (.int .u64) r.2.2.2.2.2.2.2.2.2.2.2.2.1), (.d .str r.2.2.2.2.2.2.2.2.2.2.2.2.2.1), (.d .str r.2.2.2.2.2.2.2.2.2.2.2.2.2.2.1), (.d (.int .i64) r.2.2.2.2.2.2.2.2.2.2.2.2.2.2.2), (.raw (.slice none 0 0))])]⟩
abbrev G1 : Type := Int → ByteArray → ByteArray → ByteArray → ByteArray → ByteArray → Int → ByteArray → Int → Bool → Int → Int → Int → ByteArray → ByteArray → Int → Option (Int × ByteArray × ByteArray × ByteArray × ByteArray × ByteArray × Int × ByteArray × Int × Bool × Int × Int × Int × ByteArray × ByteArray × Int)
def ct (g0 : G0) (g1 : G1) : Ct := (ctOr (mkCt 1 [] [⟨[.k (.ptr 0 0)], [.box [.g T_api_Change]], fun x y => g0 y.1.1⟩] e0) (mkCt 1 [] [⟨[.k (.ptr 0 0)], [.box [.g (.int .i64), .g .str, .g .str, .g .str, .g .str, .g T_ops_reader, .c .nilS, .g T_api_Col, .g T_ops_reader, .c .nilS]], fun x y => g1 y.1.1 y.1.2.1 y.1.2.2.1 y.1.2.2.2.1 y.1.2.2.2.2.1 y.1.2.2.2.2.2.1.1 y.1.2.2.2.2.2.1.2.1 y.1.2.2.2.2.2.2.2.1.1 y.1.2.2.2.2.2.2.2.1.2.1 y.1.2.2.2.2.2.2.2.1.2.2.1 y.1.2.2.2.2.2.2.2.1.2.2.2.1.1 y.1.2.2.2.2.2.2.2.1.2.2.2.1.2.1 y.1.2.2.2.2.2.2.2.1.2.2.2.1.2.2.1 y.1.2.2.2.2.2.2.2.1.2.2.2.1.2.2.2.1 y.1.2.2.2.2.2.2.2.2.1.1 y.1.2.2.2.2.2.2.2.2.1.2.1⟩] e1) (fitA ⟨[.k (.ptr 0 0)], [.box [.g T_api_Change]], fun x y => g0 y.1.1⟩))
section
variable {β : Type}
noncomputable abbrev env : FEnv := mkEnv prog f32 [] 1 [] []
def c0 (a0 : D_api_Change) (ret : D_api_Change → Option β) : Option β := (ret ((a0.1, (a0.2.1, (a0.2.2.1, (a0.2.2.2.1, (a0.2.2.2.2.1, (a0.2.2.2.2.2.1, (a0.2.2.2.2.2.2.1, (a0.2.2.2.2.2.2.2.1, ((a0.2.2.2.2.2.2.2.2.1.1, (a0.2.2.2.2.2.2.2.2.1.2.1, (a0.2.2.2.2.2.2.2.2.1.2.2.1, ((a0.2.2.2.2.2.2.2.2.1.2.2.2.1.1, (a0.2.2.2.2.2.2.2.2.1.2.2.2.1.2.1, (a0.2.2.2.2.2.2.2.2.1.2.2.2.1.2.2.1, (a0.2.2.2.2.2.2.2.2.1.2.2.2.1.2.2.2.1, ())))), ())))), ((a0.2.2.2.2.2.2.2.2.2.1.1, (a0.2.2.2.2.2.2.2.2.2.1.2.1, (a0.2.2.2.2.2.2.2.2.2.1.2.2.1, ()))), ()))))))))))))
theorem ev0 : EvA env [] [0] e0 ⟨[.k (.ptr 0 0)], [.box [.g T_api_Change]], fun x y => c0 y.1.1 some⟩ := fun x y => Eq.trans (b := c0 y.1.1 fun r => some (e0 r)) (by kernel_rfl) (by simp only [c0, bif_bind, sum_bind, oa, os, on, ofs])
def c1 (a0 : Int) (a1 : ByteArray) (a2 : ByteArray) (a3 : ByteArray) (a4 : ByteArray) (a5 : ByteArray) (a6 : Int) (a7 : ByteArray) (a8 : Int) (a9 : Bool) (a10 : Int) (a11 : Int) (a12 : Int) (a13 : ByteArray) (a14 : ByteArray) (a15 : Int) (ret : (Int × ByteArray × ByteArray × ByteArray × ByteArray × ByteArray × Int × ByteArray × Int × Bool × Int × Int × Int × ByteArray × ByteArray × Int) → Option β) : Option β := (ret (a0, a1, a2, a3, a4, a5, a6, a7, a8, a9, a10, a11, a12, a13, a14, a15))
theorem ev1 : EvA env [] [0] e1 ⟨[.k (.ptr 0 0)], [.box [.g (.int .i64), .g .str, .g .str, .g .str, .g .str, .g T_ops_reader, .c .nilS, .g T_api_Col, .g T_ops_reader, .c .nilS]], fun x y => c1 y.1.1 y.1.2.1 y.1.2.2.1 y.1.2.2.2.1 y.1.2.2.2.2.1 y.1.2.2.2.2.2.1.1 y.1.2.2.2.2.2.1.2.1 y.1.2.2.2.2.2.2.2.1.1 y.1.2.2.2.2.2.2.2.1.2.1 y.1.2.2.2.2.2.2.2.1.2.2.1 y.1.2.2.2.2.2.2.2.1.2.2.2.1.1 y.1.2.2.2.2.2.2.2.1.2.2.2.1.2.1 y.1.2.2.2.2.2.2.2.1.2.2.2.1.2.2.1 y.1.2.2.2.2.2.2.2.1.2.2.2.1.2.2.2.1 y.1.2.2.2.2.2.2.2.2.1.1 y.1.2.2.2.2.2.2.2.2.1.2.1 some⟩ := fun x y => Eq.trans (b := c1 y.1.1 y.1.2.1 y.1.2.2.1 y.1.2.2.2.1 y.1.2.2.2.2.1 y.1.2.2.2.2.2.1.1 y.1.2.2.2.2.2.1.2.1 y.1.2.2.2.2.2.2.2.1.1 y.1.2.2.2.2.2.2.2.1.2.1 y.1.2.2.2.2.2.2.2.1.2.2.1 y.1.2.2.2.2.2.2.2.1.2.2.2.1.1 y.1.2.2.2.2.2.2.2.1.2.2.2.1.2.1 y.1.2.2.2.2.2.2.2.1.2.2.2.1.2.2.1 y.1.2.2.2.2.2.2.2.1.2.2.2.1.2.2.2.1 y.1.2.2.2.2.2.2.2.2.1.1 y.1.2.2.2.2.2.2.2.2.1.2.1 fun r => some (e1 r)) (by kernel_rfl) (by simp only [c1, bif_bind, sum_bind, oa, os, on, ofs])
end
def f0 (k : Nat) (a0 : D_api_Change) : Option D_api_Change := c0 a0 some
def f1 (k : Nat) (a0 : Int) (a1 : ByteArray) (a2 : ByteArray) (a3 : ByteArray) (a4 : ByteArray) (a5 : ByteArray) (a6 : Int) (a7 : ByteArray) (a8 : Int) (a9 : Bool) (a10 : Int) (a11 : Int) (a12 : Int) (a13 : ByteArray) (a14 : ByteArray) (a15 : Int) : Option (Int × ByteArray × ByteArray × ByteArray × ByteArray × ByteArray × Int × ByteArray × Int × Bool × Int × Int × Int × ByteArray × ByteArray × Int) := c1 a0 a1 a2 a3 a4 a5 a6 a7 a8 a9 a10 a11 a12 a13 a14 a15 some
theorem hE : EnvOK env.toEnv := ctsOK L.nil
theorem ok (k : Nat) : CtOK prog 32 (ct (f0 k) (f1 k)) := (fn_or rfl (fn_ok func32 rfl (by decide) hE L.nil (L.cons ev0 L.nil)) (fn_ok func32 rfl (by decide) hE L.nil (L.cons ev1 L.nil)))
end ops_texts
namespace ops_long
def e (r : Bool) : Res := ⟨.v (.one (.d .bool r)), []⟩
abbrev G : Type := ByteArray → Option Bool
def ct (g : G) : Ct := mkCt 0 [] [⟨[.d .str], [], fun x y => g x.1⟩] e
section
variable {β : Type} 
noncomputable abbrev env : FEnv := mkEnv prog f50 [] 0 [] []
def c (a0 : ByteArray) (ret : Bool → Option β) : Option β := (ret ((decide (((ByteArray.size a0) : Int) > (16 : Int)))))
theorem ev : EvA (env) [] [0] e ⟨[.d .str], [], fun x y => c x.1 some⟩ := fun x y => Eq.trans (b := c x.1 fun r => some (e r)) (by kernel_rfl) (by simp only [c, bif_bind, sum_bind, oa, os, on, ofs])
end
def f (k : Nat) (a0 : ByteArray) : Option Bool := c  a0 some
noncomputable abbrev E (k : Nat) : FEnv := env  
theorem hE (k : Nat) : EnvOK (E k).toEnv := ctsOK L.nil
theorem ok (k : Nat) : CtOK prog 50 (ct (f k)) := fn_ok func50 rfl (by decide) (hE k) L.nil (L.cons ev L.nil)
end ops_long
namespace slices_IndexFunc_string_string
def e (r : Int) : Res := ⟨.v (.one (.d (.int .i64) r)), []⟩
abbrev G : Type := (List ByteArray) → Option Int
def ct (g : G) : Ct := mkCt 0 [] [⟨[.d (.sl .str), .k (.fn 50 [])], [], fun x y => g x.1⟩] e
abbrev S0 : Type := (List ByteArray) → Int → Int → Option Int
def sg0 (s : S0) : Seg := mkSg [4, 1, 0, 1] [] [0, 1, 7, 8] [⟨[.d (.sl .str), .k (.fn 50 []), .d (.int .i64), .d (.int .i64)], [], fun x y => s x.1 x.2.2.1 x.2.2.2.1⟩] e
section
variable {β : Type} (g50 : ops_long.G) (s0 : S0)
noncomputable abbrev env : FEnv := mkEnv prog f83 [(50, ops_long.ct g50)] 0 [] [sg0 s0]
def c (a0 : List ByteArray) (ret : Int → Option β) : Option β := ((s0 a0 ((List.length a0) : Int) (0 : Int)).bind ret)
def s0c (x0 : List ByteArray) (x1 : Int) (x2 : Int) (ret : Int → Option β) : Option β := (bif (decide (x2 < x1)) then (bif ((decide ((0 : Int) ≤ x2)) && (decide (x2 < ((List.length x0) : Int)))) then ((g50 (elem Ty.str x0 x2)).bind fun r0 => (bif r0 then (ret (x2)) else ((s0 x0 x1 (IntKind.wrap IntKind.i64 (x2 + (1 : Int)))).bind ret))) else none) else (ret ((-1 : Int))))
variable {g50} {s0}
theorem ev : EvA (env g50 s0) [] [0, 1] e ⟨[.d (.sl .str), .k (.fn 50 [])], [], fun x y => c s0 x.1 some⟩ := fun x y => Eq.trans (b := c s0 x.1 fun r => some (e r)) (by kernel_rfl) (by simp only [c, bif_bind, sum_bind, oa, os, on, ofs])
theorem s0_ev : EvA (env g50 s0) [4, 1, 0, 1] [0, 1, 7, 8] e ⟨[.d (.sl .str), .k (.fn 50 []), .d (.int .i64), .d (.int .i64)], [], fun x y => s0c g50 s0 x.1 x.2.2.1 x.2.2.2.1 some⟩ := fun x y => Eq.trans (b := s0c g50 s0 x.1 x.2.2.1 x.2.2.2.1 fun r => some (e r)) (by kernel_rfl) (by simp only [s0c, bif_bind, sum_bind, oa, os, on, ofs])
end
def s0 : Nat → (List ByteArray) → Int → Int → Option Int
  | 0, _, _, _ => none
  | k + 1, x0, x1, x2 => s0c (ops_long.f k) (s0 k) x0 x1 x2 some
def f (k : Nat) (a0 : List ByteArray) : Option Int := c (s0 k) a0 some
noncomputable abbrev E (k : Nat) : FEnv := env (ops_long.f k) (s0 k)
theorem hE (k : Nat) : EnvOK (E k).toEnv := ctsOK (L.cons (ops_long.ok k) L.nil)
theorem segs_ok : ∀ k, ∀ s ∈ [sg0 (s0 k)], SegB prog f83 0 s
  | 0 => (L.cons (sg_none (L.cons (fun _ _ => rfl) L.nil)) L.nil)
  | k + 1 => (L.cons (sg_ok (hE k) (segs_ok k) (L.cons s0_ev L.nil)) L.nil)
theorem ok (k : Nat) : CtOK prog 83 (ct (f k)) := fn_ok func83 rfl (by decide) (hE k) (segs_ok k) (L.cons ev L.nil)
end slices_IndexFunc_string_string
namespace slices_ContainsFunc_string_string
def e (r : Bool) : Res := ⟨.v (.one (.d .bool r)), []⟩
abbrev G : Type := (List ByteArray) → Option Bool
def ct (g : G) : Ct := mkCt 0 [] [⟨[.d (.sl .str), .k (.fn 50 [])], [], fun x y => g x.1⟩] e
section
variable {β : Type} (g50 : ops_long.G) (g83 : slices_IndexFunc_string_string.G)
noncomputable abbrev env : FEnv := mkEnv prog f60 [(50, ops_long.ct g50), (83, slices_IndexFunc_string_string.ct g83)] 0 [] []
def c (a0 : List ByteArray) (ret : Bool → Option β) : Option β := ((g83 a0).bind fun r0 => (ret ((decide (r0 ≥ (0 : Int))))))
variable {g50} {g83}
theorem ev : EvA (env g50 g83) [] [0, 1] e ⟨[.d (.sl .str), .k (.fn 50 [])], [], fun x y => c g83 x.1 some⟩ := fun x y => Eq.trans (b := c g83 x.1 fun r => some (e r)) (by kernel_rfl) (by simp only [c, bif_bind, sum_bind, oa, os, on, ofs])
end
def f (k : Nat) (a0 : List ByteArray) : Option Bool := c (slices_IndexFunc_string_string.f k) a0 some
noncomputable abbrev E (k : Nat) : FEnv := env (ops_long.f k) (slices_IndexFunc_string_string.f k) 
theorem hE (k : Nat) : EnvOK (E k).toEnv := ctsOK (L.cons (ops_long.ok k) (L.cons (slices_IndexFunc_string_string.ok k) L.nil))
theorem ok (k : Nat) : CtOK prog 60 (ct (f k)) := fn_ok func60 rfl (by decide) (hE k) L.nil (L.cons ev L.nil)
end slices_ContainsFunc_string_string
namespace ops_check
def e (r : Int) : Res := ⟨.v (.one (.d (.int .i64) r)), []⟩
abbrev G : Type := D_api_Change → Option Int
def ct (g : G) : Ct := mkCt 0 [] [⟨[.s T_api_Change], [], fun x y => g x.1.1⟩] e
abbrev S0 : Type := Bool → D_api_Change → Option Int
abbrev S1 : Type := D_api_Change → Option Int
def sg0 (s : S0) : Seg := mkSg [1, 0, 1] [] [1, 28] [⟨[.k (.ptr 0 0), .d .bool], [.box [.g T_api_Change]], fun x y => s x.2.1 y.1.1⟩] e
def sg1 (s : S1) : Seg := mkSg [1, 1] [] [1] [⟨[.k (.ptr 0 0)], [.box [.g T_api_Change]], fun x y => s y.1.1⟩] e
section
variable {β : Type} (g32_0 : ops_texts.G0) (g32_1 : ops_texts.G1) (g50 : ops_long.G) (g60 : slices_ContainsFunc_string_string.G) (s0 : S0) (s1 : S1)
noncomputable abbrev env : FEnv := mkEnv prog f28 [(32, ops_texts.ct g32_0 g32_1), (50, ops_long.ct g50), (60, slices_ContainsFunc_string_string.ct g60)] 0 [] [sg0 s0, sg1 s1]
def c (a0 : D_api_Change) (ret : Int → Option β) : Option β := (bif (decide (a0.1 < (1 : Int))) then ((s0 true a0).bind ret) else (bif (decide (a0.1 > (6 : Int))) then ((s0 true a0).bind ret) else (bif (decide (a0.2.2.2.2.2.2.1 < (0 : Int))) then ((s0 true a0).bind ret) else (bif (decide (a0.2.2.2.2.2.2.1 > (100 : Int))) then ((s0 true a0).bind ret) else ((s0 (decide (((List.length a0.2.2.2.2.2.2.2.1) : Int) > (8 : Int))) a0).bind ret)))))
def s0c (x0 : Bool) (x1 : D_api_Change) (ret : Int → Option β) : Option β := (bif x0 then (ret ((1 : Int))) else ((s1 x1).bind ret))
def s1c (x0 : D_api_Change) (ret : Int → Option β) : Option β := ((g32_0 x0).bind fun r0 => ((g50 r0.2.1).bind fun r1 => (bif r1 then (ret ((8 : Int))) else ((g50 r0.2.2.1).bind fun r2 => (bif r2 then (ret ((8 : Int))) else ((g50 r0.2.2.2.1).bind fun r3 => (bif r3 then (ret ((8 : Int))) else ((g50 r0.2.2.2.2.1).bind fun r4 => (bif r4 then (ret ((8 : Int))) else ((g50 r0.2.2.2.2.2.1).bind fun r5 => (bif r5 then (ret ((8 : Int))) else ((g60 r0.2.2.2.2.2.2.2.1).bind fun r6 => (bif r6 then (ret ((8 : Int))) else (ret ((0 : Int))))))))))))))))
variable {g32_0} {g32_1} {g50} {g60} {s0} {s1}
theorem ev : EvA (env g32_0 g32_1 g50 g60 s0 s1) [] [0] e ⟨[.s T_api_Change], [], fun x y => c s0 x.1.1 some⟩ := fun x y => Eq.trans (b := c s0 x.1.1 fun r => some (e r)) (by kernel_rfl) (by simp only [c, bif_bind, sum_bind, oa, os, on, ofs])
theorem s0_ev : EvA (env g32_0 g32_1 g50 g60 s0 s1) [1, 0, 1] [1, 28] e ⟨[.k (.ptr 0 0), .d .bool], [.box [.g T_api_Change]], fun x y => s0c s1 x.2.1 y.1.1 some⟩ := fun x y => Eq.trans (b := s0c s1 x.2.1 y.1.1 fun r => some (e r)) (by kernel_rfl) (by simp only [s0c, bif_bind, sum_bind, oa, os, on, ofs])
theorem s1_ev : EvA (env g32_0 g32_1 g50 g60 s0 s1) [1, 1] [1] e ⟨[.k (.ptr 0 0)], [.box [.g T_api_Change]], fun x y => s1c g32_0 g50 g60 y.1.1 some⟩ := fun x y => Eq.trans (b := s1c g32_0 g50 g60 y.1.1 fun r => some (e r)) (by kernel_rfl) (by simp only [s1c, bif_bind, sum_bind, oa, os, on, ofs])
end
mutual
def s0 : Nat → Bool → D_api_Change → Option Int
  | 0, _, _ => none
  | k + 1, x0, x1 => s0c (s1 k) x0 x1 some
def s1 : Nat → D_api_Change → Option Int
  | 0, _ => none
  | k + 1, x0 => s1c (ops_texts.f0 k) (ops_long.f k) (slices_ContainsFunc_string_string.f k) x0 some
end
def f (k : Nat) (a0 : D_api_Change) : Option Int := c (s0 k) a0 some
noncomputable abbrev E (k : Nat) : FEnv := env (ops_texts.f0 k) (ops_texts.f1 k) (ops_long.f k) (slices_ContainsFunc_string_string.f k) (s0 k) (s1 k)
theorem hE (k : Nat) : EnvOK (E k).toEnv := ctsOK (L.cons (ops_texts.ok k) (L.cons (ops_long.ok k) (L.cons (slices_ContainsFunc_string_string.ok k) L.nil)))
theorem segs_ok : ∀ k, ∀ s ∈ [sg0 (s0 k), sg1 (s1 k)], SegB prog f28 0 s
  | 0 => (L.cons (sg_none (L.cons (fun _ _ => rfl) L.nil)) (L.cons (sg_none (L.cons (fun _ _ => rfl) L.nil)) L.nil))
  | k + 1 => (L.cons (sg_ok (hE k) (segs_ok k) (L.cons s0_ev L.nil)) (L.cons (sg_ok (hE k) (segs_ok k) (L.cons s1_ev L.nil)) L.nil))
theorem ok (k : Nat) : CtOK prog 28 (ct (f k)) := fn_ok func28 rfl (by decide) (hE k) (segs_ok k) (L.cons ev L.nil)
end ops_check
namespace ops_def
def e (r : ByteArray × Int × (List D_api_Col) × Bool) : Res := ⟨.tup [(.agg [(.d .str r.1), (.d (.int .i64) r.2.1), (.d (.sl T_api_Col) r.2.2.1)]), (.one (.d .bool r.2.2.2))], []⟩
abbrev G : Type := D_api_Change → Option (ByteArray × Int × (List D_api_Col) × Bool)
def ct (g : G) : Ct := mkCt 0 [] [⟨[.s T_api_Change], [], fun x y => g x.1.1⟩] e
section
variable {β : Type} 
noncomputable abbrev env : FEnv := mkEnv prog f29 [] 0 [] []
def c (a0 : D_api_Change) (ret : (ByteArray × Int × (List D_api_Col) × Bool) → Option β) : Option β := (bif (a0.1 == (1 : Int)) then (ret (a0.2.2.2.2.2.2.2.2.2.1.1, a0.2.2.2.2.2.2.2.2.2.1.2.1, a0.2.2.2.2.2.2.2.2.2.1.2.2.1, true)) else (bif (a0.1 == (2 : Int)) then (bif ((ByteArray.toList a0.2.2.2.2.2.2.2.2.1.1) == (ByteArray.toList (ByteArray.mk (List.toArray [(107 : UInt8)])))) then (ret ((ByteArray.mk (List.toArray [(120 : UInt8)])), (1 : Int), [((ByteArray.mk (List.toArray [(106 : UInt8)])), ((2 : Int), (false, (((0 : Int), ((0 : Int), ((0 : Int), ((ByteArray.mk (List.toArray [])), ())))), ())))), a0.2.2.2.2.2.2.2.2.1], true)) else (ret ((ByteArray.mk (List.toArray [(120 : UInt8)])), (1 : Int), [((ByteArray.mk (List.toArray [(107 : UInt8)])), ((2 : Int), (false, (((0 : Int), ((0 : Int), ((0 : Int), ((ByteArray.mk (List.toArray [])), ())))), ())))), a0.2.2.2.2.2.2.2.2.1], true))) else (ret ((ByteArray.mk (List.toArray [])), (0 : Int), [], false))))
theorem ev : EvA (env) [] [0] e ⟨[.s T_api_Change], [], fun x y => c x.1.1 some⟩ := fun x y => Eq.trans (b := c x.1.1 fun r => some (e r)) (by kernel_rfl) (by simp only [c, bif_bind, sum_bind, oa, os, on, ofs])
end
def f (k : Nat) (a0 : D_api_Change) : Option (ByteArray × Int × (List D_api_Col) × Bool) := c  a0 some
noncomputable abbrev E (k : Nat) : FEnv := env  
theorem hE (k : Nat) : EnvOK (E k).toEnv := ctsOK L.nil
theorem ok (k : Nat) : CtOK prog 29 (ct (f k)) := fn_ok func29 rfl (by decide) (hE k) L.nil (L.cons ev L.nil)
end ops_def
namespace pack_Uint
def e (r : ByteArray) : Res := ⟨.v (.one (.d .str r)), []⟩
abbrev G : Type := Int → Option ByteArray
def ct (g : G) : Ct := mkCt 0 [] [⟨[.d (.int .u64)], [], fun x y => g x.1⟩] e
abbrev S0 : Type := Int → (List Int) → Option ByteArray
def sg0 (s : S0) : Seg := mkSg [4, 0, 1, 1] [.own 3 (.int .u8)] [0, 3] [⟨[.d (.int .u64), .k (.own 0)], [.own (.int .u8) false], fun x y => s x.1 y.1⟩] e
section
variable {β : Type} (s0 : S0)
noncomputable abbrev env : FEnv := mkEnv prog f31 [] 0 [] [sg0 s0]
def c (a0 : Int) (ret : ByteArray → Option β) : Option β := ((s0 a0 []).bind ret)
def s0c (x0 : Int) (x1 : List Int) (ret : ByteArray → Option β) : Option β := (bif (decide (x0 > (127 : Int))) then (bif (decide ((((List.length x1) + (1 : Nat)) * (1 : Nat)) ≤ (35184372088832 : Nat))) then ((s0 (Int.fdiv x0 (128 : Int)) (x1 ++ [(IntKind.wrap IntKind.u8 ((BitVec.toNat ((BitVec.ofInt (8 : Nat) (IntKind.wrap IntKind.u8 x0)) ||| (BitVec.ofInt (8 : Nat) (128 : Int)))) : Int))])).bind ret) else none) else (bif (decide ((((List.length x1) + (1 : Nat)) * (1 : Nat)) ≤ (35184372088832 : Nat))) then (ret ((ByteArray.mk (List.toArray (List.map (fun n => (UInt8.ofNat (Int.toNat n))) (x1 ++ [(IntKind.wrap IntKind.u8 x0)])))))) else none))
variable {s0}
theorem ev : EvA (env s0) [] [0] e ⟨[.d (.int .u64)], [], fun x y => c s0 x.1 some⟩ := fun x y => Eq.trans (b := c s0 x.1 fun r => some (e r)) (by kernel_rfl) (by simp only [c, bif_bind, sum_bind, oa, os, on, ofs])
theorem s0_ev : EvA (env s0) [4, 0, 1, 1] [0, 3] e ⟨[.d (.int .u64), .k (.own 0)], [.own (.int .u8) false], fun x y => s0c s0 x.1 y.1 some⟩ := fun x y => Eq.trans (b := s0c s0 x.1 y.1 fun r => some (e r)) (by kernel_rfl) (by simp only [s0c, bif_bind, sum_bind, oa, os, on, ofs])
end
def s0 : Nat → Int → (List Int) → Option ByteArray
  | 0, _, _ => none
  | k + 1, x0, x1 => s0c (s0 k) x0 x1 some
def f (k : Nat) (a0 : Int) : Option ByteArray := c (s0 k) a0 some
noncomputable abbrev E (k : Nat) : FEnv := env  (s0 k)
theorem hE (k : Nat) : EnvOK (E k).toEnv := ctsOK L.nil
theorem segs_ok : ∀ k, ∀ s ∈ [sg0 (s0 k)], SegB prog f31 0 s
  | 0 => (L.cons (sg_none (L.cons (fun _ _ => rfl) L.nil)) L.nil)
  | k + 1 => (L.cons (sg_ok (hE k) (segs_ok k) (L.cons s0_ev L.nil)) L.nil)
theorem ok (k : Nat) : CtOK prog 31 (ct (f k)) := fn_ok func31 rfl (by decide) (hE k) (segs_ok k) (L.cons ev L.nil)
end pack_Uint
namespace pack_Text
def e (r : ByteArray) : Res := ⟨.v (.one (.d .str r)), []⟩
abbrev G : Type := ByteArray → Option ByteArray
def ct (g : G) : Ct := mkCt 0 [] [⟨[.d .str], [], fun x y => g x.1⟩] e
section
variable {β : Type} (g31 : pack_Uint.G)
noncomputable abbrev env : FEnv := mkEnv prog f33 [(31, pack_Uint.ct g31)] 0 [] []
def c (a0 : ByteArray) (ret : ByteArray → Option β) : Option β := ((g31 (IntKind.wrap IntKind.u64 ((ByteArray.size a0) : Int))).bind fun r0 => (bif ((decide ((ByteArray.size r0) ≤ (4611686018427387903 : Nat))) && (decide ((ByteArray.size a0) ≤ (4611686018427387903 : Nat)))) then (ret ((r0 ++ a0))) else none))
variable {g31}
theorem ev : EvA (env g31) [] [0] e ⟨[.d .str], [], fun x y => c g31 x.1 some⟩ := fun x y => Eq.trans (b := c g31 x.1 fun r => some (e r)) (by kernel_rfl) (by simp only [c, bif_bind, sum_bind, oa, os, on, ofs])
end
def f (k : Nat) (a0 : ByteArray) : Option ByteArray := c (pack_Uint.f k) a0 some
noncomputable abbrev E (k : Nat) : FEnv := env (pack_Uint.f k) 
theorem hE (k : Nat) : EnvOK (E k).toEnv := ctsOK (L.cons (pack_Uint.ok k) L.nil)
theorem ok (k : Nat) : CtOK prog 33 (ct (f k)) := fn_ok func33 rfl (by decide) (hE k) L.nil (L.cons ev L.nil)
end pack_Text
/-! ### schema_number: function 84 (by hand) -/
def schema_number.ct : Ct where
  nin := 0
  mv := []
  F := fun tvs blks {β} K => match tvs, blks with
    | [.v (.one (.raw .nilIface))], [] => K ⟨.v (.one (.d (.int .i64) (0 : Int))), []⟩
    | [.v (.one (.ifc 162 true (.pair (.int .i64) .unit) x))], [] => K ⟨.v (.one (.d (.int .i64) x.1)), []⟩
    | _, _ => none
  legit := fun tvs blks K r h => by
    split at h
    · exact ⟨_, rfl, h⟩
    · exact ⟨_, rfl, h⟩
    · simp at h
/-! errors.As at the one target that the program has: a variable of type bad (after the guide's worked example 'toyas') -/
section
open Go.RowKit Go.Extern.Stop Go.Stop Go.Extern
abbrev schema_number.rt (n : Nat) : Value := .pointer (some ⟨2, n, none⟩)
theorem schema_number.as_nil (t : Value) (w : World) : Calls Go.Proofs.Tryz.prog 109 #[.nilIface, t] w fun e w' => e = .returned (.bool false) ∧ w' = w := by
  go_enter Go.Proofs.Tryz.func109, Go.Proofs.Tryz.ntmps109
  go_wp2
  go_ret
  exact ⟨rfl, rfl⟩
theorem schema_number.valueOfP (t : Addr) (w : World) : (ReflectliteValue.unpack (.iface 164 (.pointer (some t)))).run Go.Proofs.Tryz.prog w
    = .ok (.agg #[schema_number.rt 164, .pointer (some ⟨w.heap.size, 0, none⟩), .int .u64 150]) (w.alloc (.cells #[.pointer (some t)] 164)) := by kernel_rfl
theorem schema_number.typeP (a : Addr) (w : World) : (ReflectliteValue.methodAny (ReflectliteValue.valueError "reflectlite.Value.Type" 0) (fun t _ _ _ => ReflectliteType.toType t) #[.agg #[schema_number.rt 164, .pointer (some a), .int .u64 150]]).run Go.Proofs.Tryz.prog w
    = .ok (.iface 205 (.agg #[schema_number.rt 164])) w := by kernel_rfl
theorem schema_number.methodKind (h : Value) (w : World) : (Go.method 355 205 (.agg #[h]) "Kind").run Go.Proofs.Tryz.prog w = .ok (170, h) w := by kernel_rfl
theorem schema_number.kindP (w : World) : ((ReflectliteType.abiMethod fun t => (fun a : Nat => Value.int IntKind.u8 (a : Int)) <$> Rtype.kind t) #[schema_number.rt 164]).run Go.Proofs.Tryz.prog w = .ok (.int .u8 22) w := by kernel_rfl
theorem schema_number.kindB (w : World) : ((ReflectliteType.abiMethod fun t => (fun a : Nat => Value.int IntKind.u8 (a : Int)) <$> Rtype.kind t) #[schema_number.rt 162]).run Go.Proofs.Tryz.prog w = .ok (.int .u8 25) w := by kernel_rfl
theorem schema_number.rlm (z : Sem Value) (f : TypeId → Addr → Nat → Nat → Sem Value) (v : Value) :
    ReflectliteValue.method z f #[v] = (do match ← ReflectliteValue.parts v with | none => z | some (t, a, fl) => f t a fl (fl % 32)) := rfl
theorem schema_number.partsP (a : Addr) (w : World) : (ReflectliteValue.parts (.agg #[schema_number.rt 164, .pointer (some a), .int .u64 150])).run Go.Proofs.Tryz.prog w = .ok (some (164, a, 150)) w := by kernel_rfl
theorem schema_number.isNilP (a p : Addr) (W : World) (ha : W.cell? a = some (.pointer (some p))) :
    (ReflectliteValue.method (ReflectliteValue.valueError "reflectlite.Value.IsNil" 0) ReflectliteValue.isNil #[.agg #[schema_number.rt 164, .pointer (some a), .int .u64 150]]).run Go.Proofs.Tryz.prog W = .ok (.bool false) W := by
  rw [schema_number.rlm]
  simp only [Sem.run_bind, schema_number.partsP, Result.andThen]
  simp [ReflectliteValue.isNil, loadVar, isAgg, underlying, Go.Proofs.Tryz.underlying164, ha, Result.andThen]
theorem schema_number.methodElem (h : Value) (w : World) : (Go.method 355 205 (.agg #[h]) "Elem").run Go.Proofs.Tryz.prog w = .ok (180, .agg #[h]) w := by kernel_rfl
theorem schema_number.methodImplements (h : Value) (w : World) : (Go.method 355 205 (.agg #[h]) "Implements").run Go.Proofs.Tryz.prog w = .ok (181, .agg #[h]) w := by kernel_rfl
theorem schema_number.methodAssignableTo (h : Value) (w : World) : (Go.method 355 205 (.agg #[h]) "AssignableTo").run Go.Proofs.Tryz.prog w = .ok (178, .agg #[h]) w := by kernel_rfl
theorem schema_number.elemP (w : World) : (ReflectliteType.method ReflectliteType.elem #[.agg #[schema_number.rt 164]]).run Go.Proofs.Tryz.prog w = .ok (.iface 205 (.agg #[schema_number.rt 162])) w := by kernel_rfl
theorem schema_number.implementsB (w : World) : (ReflectliteType.relation "Implements" ReflectliteType.implements_ #[.agg #[schema_number.rt 162], .iface 205 (.agg #[schema_number.rt 142])]).run Go.Proofs.Tryz.prog w = .ok (.bool true) w := by kernel_rfl
theorem schema_number.typeOfB (v : Value) (w : World) : (ReflectliteType.typeOf #[.iface 162 v]).run Go.Proofs.Tryz.prog w = .ok (.iface 205 (.agg #[schema_number.rt 162])) w := by kernel_rfl
theorem schema_number.assignableB (w : World) : (ReflectliteType.relation "AssignableTo" ReflectliteType.assignableTo #[.agg #[schema_number.rt 162], .iface 205 (.agg #[schema_number.rt 162])]).run Go.Proofs.Tryz.prog w = .ok (.bool true) w := by kernel_rfl
theorem schema_number.valueOfB (n : Int) (w : World) : (ReflectliteValue.unpack (.iface 162 (.agg #[.int .i64 n]))).run Go.Proofs.Tryz.prog w
    = .ok (.agg #[schema_number.rt 162, .pointer (some ⟨w.heap.size, 0, none⟩), .int .u64 153]) (w.alloc (.cells #[.int .i64 n] 162)) := by kernel_rfl
theorem schema_number.elemOfP (w : World) : (Rtype.elem? 164).run Go.Proofs.Tryz.prog w = .ok (some 162) w := by kernel_rfl
theorem schema_number.mkB (p : Addr) (w : World) : (ReflectliteValue.mk 162 p ReflectliteValue.flagAddr).run Go.Proofs.Tryz.prog w = .ok (.agg #[schema_number.rt 162, .pointer (some p), .int .u64 409]) w := by kernel_rfl
theorem schema_number.elemVP (a p : Addr) (W : World) (ha : W.cell? a = some (.pointer (some p))) :
    (ReflectliteValue.method (ReflectliteValue.valueError "reflectlite.Value.Elem" 0) ReflectliteValue.elem #[.agg #[schema_number.rt 164, .pointer (some a), .int .u64 150]]).run Go.Proofs.Tryz.prog W
      = .ok (.agg #[schema_number.rt 162, .pointer (some p), .int .u64 409]) W := by
  rw [schema_number.rlm]
  simp only [Sem.run_bind, schema_number.partsP, Result.andThen]
  simp [ReflectliteValue.elem, loadVar, isAgg, underlying, Go.Proofs.Tryz.underlying164, ha, Result.andThen, schema_number.elemOfP, schema_number.mkB]
theorem schema_number.rls (v x : Value) : ReflectliteValue.set #[v, x] = (do
    let (some (dst, a, fl), some (src, b, _)) := (← ReflectliteValue.parts v, ← ReflectliteValue.parts x)
      | unsupported (.noEntry "extern/(internal/reflectlite.Value).Set.zeroValue")
    if fl / ReflectliteValue.flagAddr % 2 == 0 then unsupported (.noEntry "extern/(internal/reflectlite.Value).Set.unaddressable")
    let val ← loadVar src b
    if ← Rtype.directlyAssignable dst src then storeVar dst a val
    else if ← Rtype.implements dst src then
      if (← Rtype.kind src) == 20 then
        match val with
        | .nilIface => unsupported (.noEntry "extern/reflectlite: a nil value of one interface type handed on as a value of another")
        | _ => storeVar dst a val
      else storeVar dst a (.iface src val)
    else panicString ("reflectlite.Set: value of type " ++ (← Rtype.spelt src) ++ " is not assignable to type " ++ (← Rtype.spelt dst))
    pure (.tuple #[])) := rfl
theorem schema_number.partsBa (a : Addr) (w : World) : (ReflectliteValue.parts (.agg #[schema_number.rt 162, .pointer (some a), .int .u64 409])).run Go.Proofs.Tryz.prog w = .ok (some (162, a, 409)) w := by kernel_rfl
theorem schema_number.partsB (a : Addr) (w : World) : (ReflectliteValue.parts (.agg #[schema_number.rt 162, .pointer (some a), .int .u64 153])).run Go.Proofs.Tryz.prog w = .ok (some (162, a, 153)) w := by kernel_rfl
theorem schema_number.directB (w : World) : (Rtype.directlyAssignable 162 162).run Go.Proofs.Tryz.prog w = .ok true w := by kernel_rfl
theorem schema_number.sizeB (w : World) : (sizeOf 162).run Go.Proofs.Tryz.prog w = .ok 1 w := by kernel_rfl
theorem schema_number.setB (tb bb : Nat) (n : Int) (old : Value) (W : World) (hb : W.cell? ⟨bb, 0, none⟩ = some (.int .i64 n)) (ht : W.cell? ⟨tb, 0, none⟩ = some old) (hf : W.frozen? ⟨tb, 0, none⟩ = false) :
    (ReflectliteValue.set #[.agg #[schema_number.rt 162, .pointer (some ⟨tb, 0, none⟩), .int .u64 409], .agg #[schema_number.rt 162, .pointer (some ⟨bb, 0, none⟩), .int .u64 153]]).run Go.Proofs.Tryz.prog W
      = .ok (.tuple #[]) (W.setCell ⟨tb, 0, none⟩ (.int .i64 n)) := by
  rw [schema_number.rls]
  have hl := run_loadCells_list (P := Go.Proofs.Tryz.prog) W ⟨bb, 0, none⟩ [.int .i64 n] (fun j v hj => by
    match j with
    | 0 => simp at hj; subst hj; simpa [Addr.add] using hb
    | j + 1 => simp at hj)
  simp only [List.length_singleton] at hl
  simp only [Sem.run_bind, schema_number.partsBa, schema_number.partsB, Result.andThen]
  simp [ReflectliteValue.flagAddr, loadVar, isAgg, underlying, Go.Proofs.Tryz.underlying162, hl, schema_number.sizeB, Result.andThen, schema_number.directB, storeVar, Value.cells, storeCells, Addr.add]
  rw [run_store Go.Proofs.Tryz.prog W ⟨tb, 0, none⟩ _ _ (by rfl)]
  simp [ht, hf]
set_option maxHeartbeats 4000000 in
theorem schema_number.as_hit (n : Int) (tb : Nat) (old : Value) (w : World) (hg : w.cell? ⟨0, 0, none⟩ = some (.iface 205 (.agg #[schema_number.rt 142]))) (ht0 : w.cell? ⟨tb, 0, none⟩ = some old) (hf0 : w.frozen? ⟨tb, 0, none⟩ = false) :
    Calls Go.Proofs.Tryz.prog 109 #[.iface 162 (.agg #[.int .i64 n]), .iface 164 (.pointer (some ⟨tb, 0, none⟩))] w fun ev w' => ev = .returned (.bool true) ∧ w' = ((((w.alloc (.cells #[.pointer (some ⟨tb, 0, none⟩)] 164)).alloc (.cells #[schema_number.rt 164, .pointer (some ⟨w.heap.size, 0, none⟩), .int .u64 150] 189)).alloc (.cells #[schema_number.rt 164, .pointer (some ⟨w.heap.size, 0, none⟩), .int .u64 150] 189)).alloc (.cells #[.int .i64 n] 162)).setCell ⟨tb, 0, none⟩ (.int .i64 n) := by
  have h6 := @run_callFunc_extern Go.Proofs.Tryz.prog 134 _ (fun args => ReflectliteValue.unpack (args.getD 0 (.tuple #[]))) Go.Proofs.Tryz.func134 (by kernel_rfl) (by kernel_rfl) (by kernel_rfl) (by kernel_rfl)
  have h7 := @run_callFunc_extern Go.Proofs.Tryz.prog 135 _ (ReflectliteValue.methodAny (ReflectliteValue.valueError "reflectlite.Value.Type" 0) (fun t _ _ _ => ReflectliteType.toType t)) Go.Proofs.Tryz.func135 (by kernel_rfl) (by kernel_rfl) (by kernel_rfl) (by kernel_rfl)
  have h8 := @run_callFunc_extern Go.Proofs.Tryz.prog 136 _ (ReflectliteValue.method (ReflectliteValue.valueError "reflectlite.Value.IsNil" 0) ReflectliteValue.isNil) Go.Proofs.Tryz.func136 (by kernel_rfl) (by kernel_rfl) (by kernel_rfl) (by kernel_rfl)
  have h27 := @run_callFunc_extern Go.Proofs.Tryz.prog 170 _ (ReflectliteType.abiMethod fun t => do pure (.int .u8 (← Rtype.kind t))) Go.Proofs.Tryz.func170 (by kernel_rfl) (by kernel_rfl) (by kernel_rfl) (by kernel_rfl)
  have h37 := @run_callFunc_extern Go.Proofs.Tryz.prog 180 _ (ReflectliteType.method ReflectliteType.elem) Go.Proofs.Tryz.func180 (by kernel_rfl) (by kernel_rfl) (by kernel_rfl) (by kernel_rfl)
  have h38 := @run_callFunc_extern Go.Proofs.Tryz.prog 181 _ (ReflectliteType.relation "Implements" ReflectliteType.implements_) Go.Proofs.Tryz.func181 (by kernel_rfl) (by kernel_rfl) (by kernel_rfl) (by kernel_rfl)
  have h10 := @run_callFunc_extern Go.Proofs.Tryz.prog 149 _ ReflectliteType.typeOf Go.Proofs.Tryz.func149 (by kernel_rfl) (by kernel_rfl) (by kernel_rfl) (by kernel_rfl)
  have h35 := @run_callFunc_extern Go.Proofs.Tryz.prog 178 _ (ReflectliteType.relation "AssignableTo" ReflectliteType.assignableTo) Go.Proofs.Tryz.func178 (by kernel_rfl) (by kernel_rfl) (by kernel_rfl) (by kernel_rfl)
  have h11 := @run_callFunc_extern Go.Proofs.Tryz.prog 150 _ (ReflectliteValue.method (ReflectliteValue.valueError "reflectlite.Value.Elem" 0) ReflectliteValue.elem) Go.Proofs.Tryz.func150 (by kernel_rfl) (by kernel_rfl) (by kernel_rfl) (by kernel_rfl)
  have h12 := @run_callFunc_extern Go.Proofs.Tryz.prog 151 _ ReflectliteValue.set Go.Proofs.Tryz.func151 (by kernel_rfl) (by kernel_rfl) (by kernel_rfl) (by kernel_rfl)
  have tO := schema_number.typeOfB
  have mA := schema_number.methodAssignableTo
  have a25 := schema_number.assignableB
  have v25 := schema_number.valueOfB
  have f6 := schema_number.valueOfP
  have f7 := schema_number.typeP
  have mK := schema_number.methodKind
  have mE := schema_number.methodElem
  have mI := schema_number.methodImplements
  have k27 := schema_number.kindP
  have k25 := schema_number.kindB
  have e27 := schema_number.elemP
  have i25 := schema_number.implementsB
  have n8 := schema_number.isNilP ⟨w.heap.size, 0, none⟩ ⟨tb, 0, none⟩ ((w.alloc (.cells #[.pointer (some ⟨tb, 0, none⟩)] 164)).alloc (.cells #[schema_number.rt 164, .pointer (some ⟨w.heap.size, 0, none⟩), .int .u64 150] 189)) (by simp)
  have hlt : 0 < w.heap.size := by
    rcases Nat.lt_or_ge 0 w.heap.size with h | h
    · exact h
    · simp [World.cell?, Array.getElem?_eq_none h] at hg
  have hg2 : ((w.alloc (.cells #[.pointer (some ⟨tb, 0, none⟩)] 164)).alloc (.cells #[schema_number.rt 164, .pointer (some ⟨w.heap.size, 0, none⟩), .int .u64 150] 189)).cell? ⟨0, 0, none⟩ = some (.iface 205 (.agg #[schema_number.rt 142])) := by
    rw [World.cell?_alloc_lt _ _ ⟨0, 0, none⟩ (by first | (simp; done) | (simp; omega)), World.cell?_alloc_lt _ _ ⟨0, 0, none⟩ hlt]; exact hg
  have htl : tb < w.heap.size := by
    rcases Nat.lt_or_ge tb w.heap.size with h | h
    · exact h
    · simp [World.cell?, Array.getElem?_eq_none h] at ht0
  have el := schema_number.elemVP ⟨w.heap.size, 0, none⟩ ⟨tb, 0, none⟩ (((w.alloc (.cells #[.pointer (some ⟨tb, 0, none⟩)] 164)).alloc (.cells #[schema_number.rt 164, .pointer (some ⟨w.heap.size, 0, none⟩), .int .u64 150] 189)).alloc (.cells #[schema_number.rt 164, .pointer (some ⟨w.heap.size, 0, none⟩), .int .u64 150] 189)) (by rw [World.cell?_alloc_lt _ _ ⟨w.heap.size, 0, none⟩ (by simp; omega)]; simp)
  have st := schema_number.setB tb (w.heap.size + 1 + 1 + 1) n old ((((w.alloc (.cells #[.pointer (some ⟨tb, 0, none⟩)] 164)).alloc (.cells #[schema_number.rt 164, .pointer (some ⟨w.heap.size, 0, none⟩), .int .u64 150] 189)).alloc (.cells #[schema_number.rt 164, .pointer (some ⟨w.heap.size, 0, none⟩), .int .u64 150] 189)).alloc (.cells #[.int .i64 n] 162))
    (by rw [World.cell?_alloc_at _ _ _ _ (by simp)]; rfl)
    (by rw [World.cell?_alloc_lt _ _ ⟨tb, 0, none⟩ (by simp; omega), World.cell?_alloc_lt _ _ ⟨tb, 0, none⟩ (by simp; omega), World.cell?_alloc_lt _ _ ⟨tb, 0, none⟩ (by simp; omega), World.cell?_alloc_lt _ _ ⟨tb, 0, none⟩ htl]; exact ht0)
    (by rw [World.frozen?_alloc_old _ _ ⟨tb, 0, none⟩ (by simp; omega), World.frozen?_alloc_old _ _ ⟨tb, 0, none⟩ (by simp; omega), World.frozen?_alloc_old _ _ ⟨tb, 0, none⟩ (by simp; omega), World.frozen?_alloc_old _ _ ⟨tb, 0, none⟩ (Nat.ne_of_lt htl)]; exact hf0)
  go_enter Go.Proofs.Tryz.func109, Go.Proofs.Tryz.ntmps109
  go_wp2
  refine wp_loop_rounds 1 ?_
  rw [rounds_succ]
  go_wp2
  go_ret
  exact ⟨rfl, rfl⟩
theorem schema_number.num_nil (w : World) : Calls Go.Proofs.Tryz.prog 84 #[.nilIface] w fun e w' => e = .returned (.int .i64 0) ∧ Below w.heap.size w w' := by
  go_enter Go.Proofs.Tryz.func84, Go.Proofs.Tryz.ntmps84
  go_wp2_with (first | (go_at_call 109; refine (schema_number.as_nil _ _).mono ?_; rintro e w' ⟨rfl, rfl⟩))
  go_ret
  exact ⟨rfl, (Below.refl _ _).alloc (Nat.le_refl _) _⟩
set_option maxHeartbeats 4000000 in
theorem schema_number.num_hit (n : Int) (w : World) (hg : w.cell? ⟨0, 0, none⟩ = some (.iface 205 (.agg #[schema_number.rt 142]))) : Calls Go.Proofs.Tryz.prog 84 #[.iface 162 (.agg #[.int .i64 n])] w fun e w' => e = .returned (.int .i64 n) ∧ Below w.heap.size w w' := by
  have hlt : 0 < w.heap.size := by
    rcases Nat.lt_or_ge 0 w.heap.size with h | h
    · exact h
    · simp [World.cell?, Array.getElem?_eq_none h] at hg
  have hgA : (w.alloc (.cells #[.int .i64 0] 162)).cell? ⟨0, 0, none⟩ = some (.iface 205 (.agg #[schema_number.rt 142])) := by
    rw [World.cell?_alloc_lt _ _ ⟨0, 0, none⟩ hlt]; exact hg
  have htA : (w.alloc (.cells #[.int .i64 0] 162)).cell? ⟨w.heap.size, 0, none⟩ = some (.int .i64 0) := by simp
  have hfA : (w.alloc (.cells #[.int .i64 0] 162)).frozen? ⟨w.heap.size, 0, none⟩ = false := by simp
  go_enter Go.Proofs.Tryz.func84, Go.Proofs.Tryz.ntmps84
  go_wp2_with (first | (go_at_call 109; refine (schema_number.as_hit n _ _ _ hgA htA hfA).mono ?_; rintro e w' ⟨rfl, rfl⟩))
  go_ret
  refine ⟨rfl, ?_⟩
  try refine Below.setCell ?_ (Nat.le_refl _) _
  refine Below.alloc (Below.alloc (Below.alloc (Below.alloc (Below.alloc (Below.refl _ _) (Nat.le_refl _) _) ?_ _) ?_ _) ?_ _) ?_ _ <;> (simp; try omega)
end
theorem schema_number.ok (k : Nat) : CtOK Go.Proofs.Tryz.prog 84 schema_number.ct := by
  have enters : ∀ (args : Array Value) (w : World), (callFunc 84 args).run Go.Proofs.Tryz.prog w = .ok (.enter 84 args) w := fun args w => Go.Proofs.enters_of Go.Proofs.Tryz.func84 (by kernel_rfl) rfl args w
  intro tvs blks res hF w S ρ H vals hm hv
  have fin : ∀ (n : Int), res = ⟨.v (.one (.d (.int .i64) n)), []⟩ → blks = [] → Calls Go.Proofs.Tryz.prog 84 vals.toArray w (fun e w' => e = .returned (.int .i64 n) ∧ RowKit.Below w.heap.size w w') →
      CallsTo Go.Proofs.Tryz.prog 84 vals.toArray w fun e w' => ∃ v S' ρ' H', e = .returned v ∧ Mem (pkgCx w S ρ H blks schema_number.ct.nin) w' S' ρ' H' (fun n => res.blks[n]?) ∧ RepTV w' S' ρ' res.tv v := by
    rintro n rfl rfl hc
    left
    refine ⟨enters _ _, hc.mono fun e w' ⟨h1, h2⟩ => ⟨_, S, ρ, H, h1, ?_, rfl⟩⟩
    have : (fun n => ([] : List (Option Blk))[n]?) = live [] := by funext n; simp [live]
    rw [this]; exact hm.below h2
  simp only [schema_number.ct] at hF
  split at hF
  · simp only [Option.some.injEq] at hF
    obtain ⟨v0, m0, rfl, h0, hv⟩ := All2.cons_left hv
    cases All2.nil_left hv
    obtain ⟨rfl, _⟩ := h0
    exact fin 0 hF.symm rfl (schema_number.num_nil w)
  · rename_i x
    simp only [Option.some.injEq] at hF
    obtain ⟨v0, m0, rfl, h0, hv⟩ := All2.cons_left hv
    cases All2.nil_left hv
    obtain ⟨us, u, rfl, ⟨v1, v2, rfl, h1, h2⟩, rfl⟩ := h0
    simp only [Rd] at h1 h2
    subst h1; subst h2
    obtain ⟨_, hg⟩ := hm.gl _ (List.mem_singleton.2 rfl)
    exact fin x.1 hF.symm rfl (schema_number.num_hit x.1 w hg)
  · simp at hF
end Go.Proofs.YtaehpfmnejeddaaGreatDoor.Aev
