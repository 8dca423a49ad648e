/- By a program of this session (AEV): functions of the program as plain functions, and that the machine does what they say. -/
import Derived.Test.YtaehpfmnejeddaaGreatDoorTys
import Derived.Test.YtaehpfmnejeddaaGreatDoorProg
import Derived.Laws.Externs
import Derived.Lib.Bytealg
import Derived.Test.YtaehpfmnejeddaaGreatDoorF6
import Derived.Test.YtaehpfmnejeddaaGreatDoorF7
namespace Go.Proofs.YtaehpfmnejeddaaGreatDoor.Aev
set_option linter.unusedVariables false
set_option linter.unusedSimpArgs false
set_option maxRecDepth 100000
set_option maxHeartbeats 4000000
open Go Go.Proofs.Tryz
namespace transomref09_CheckCol
def e (r : Int) : Res := ⟨.v (.one (.d (.int .i64) r)), []⟩
abbrev G : Type := ByteArray → Int → Bool → Int → Int → Int → ByteArray → Option Int
def ct (g : G) : Ct := mkCt 0 [] [⟨[.s T_api_Col], [], fun x y => g x.1.1.1 x.1.1.2.1 x.1.1.2.2.1 x.1.1.2.2.2.1.1 x.1.1.2.2.2.1.2.1 x.1.1.2.2.2.1.2.2.1 x.1.1.2.2.2.1.2.2.2.1⟩] e
abbrev S0 : Type := Bool → ByteArray → Int → Bool → Int → Int → Int → ByteArray → Option Int
abbrev S1 : Type := ByteArray → Int → Bool → Int → Int → Int → ByteArray → Option Int
def sg0 (s : S0) : Seg := mkSg [1, 0, 1, 1] [] [1, 18] [⟨[.k (.ptr 0 0), .d .bool], [.box [.g T_api_Col]], fun x y => s x.2.1 y.1.1.1 y.1.1.2.1 y.1.1.2.2.1 y.1.1.2.2.2.1.1 y.1.1.2.2.2.1.2.1 y.1.1.2.2.2.1.2.2.1 y.1.1.2.2.2.1.2.2.2.1⟩] e
def sg1 (s : S1) : Seg := mkSg [1, 1, 1] [] [1] [⟨[.k (.ptr 0 0)], [.box [.g T_api_Col]], fun x y => s y.1.1.1 y.1.1.2.1 y.1.1.2.2.1 y.1.1.2.2.2.1.1 y.1.1.2.2.2.1.2.1 y.1.1.2.2.2.1.2.2.1 y.1.1.2.2.2.1.2.2.2.1⟩] e
section
variable {β : Type} (g76 : transomref04_Check.G) (g87 : transomref08_Check.G) (s0 : S0) (s1 : S1)
noncomputable abbrev env : FEnv := mkEnv prog f88 [(76, transomref04_Check.ct g76), (87, transomref08_Check.ct g87)] 0 [] [sg0 s0, sg1 s1]
def c (a0 : ByteArray) (a1 : Int) (a2 : Bool) (a3 : Int) (a4 : Int) (a5 : Int) (a6 : ByteArray) (ret : Int → Option β) : Option β := ((g87 a0).bind fun r0 => (bif (r0 != (0 : Int)) then (ret (r0)) else (bif (decide (a1 < (1 : Int))) then ((s0 true a0 a1 a2 a3 a4 a5 a6).bind ret) else ((s0 (decide (a1 > (5 : Int))) a0 a1 a2 a3 a4 a5 a6).bind ret))))
def s0c (x0 : Bool) (x1 : ByteArray) (x2 : Int) (x3 : Bool) (x4 : Int) (x5 : Int) (x6 : Int) (x7 : ByteArray) (ret : Int → Option β) : Option β := (bif x0 then (ret ((5 : Int))) else ((s1 x1 x2 x3 x4 x5 x6 x7).bind ret))
def s1c (x0 : ByteArray) (x1 : Int) (x2 : Bool) (x3 : Int) (x4 : Int) (x5 : Int) (x6 : ByteArray) (ret : Int → Option β) : Option β := ((g76 x3 x4 x5 x6).bind fun r0 => (bif (r0 != (0 : Int)) then (ret (r0)) else (bif (x3 != (0 : Int)) then (bif (x3 != x1) then (ret ((11 : Int))) else (ret ((0 : Int)))) else (ret ((0 : Int))))))
variable {g76} {g87} {s0} {s1}
theorem ev : EvA (env g76 g87 s0 s1) [] [0] e ⟨[.s T_api_Col], [], fun x y => c g87 s0 x.1.1.1 x.1.1.2.1 x.1.1.2.2.1 x.1.1.2.2.2.1.1 x.1.1.2.2.2.1.2.1 x.1.1.2.2.2.1.2.2.1 x.1.1.2.2.2.1.2.2.2.1 some⟩ := fun x y => Eq.trans (b := c g87 s0 x.1.1.1 x.1.1.2.1 x.1.1.2.2.1 x.1.1.2.2.2.1.1 x.1.1.2.2.2.1.2.1 x.1.1.2.2.2.1.2.2.1 x.1.1.2.2.2.1.2.2.2.1 fun r => some (e r)) (by kernel_rfl) (by simp only [c, bif_bind, sum_bind, oa, os, on, ofs])
theorem s0_ev : EvA (env g76 g87 s0 s1) [1, 0, 1, 1] [1, 18] e ⟨[.k (.ptr 0 0), .d .bool], [.box [.g T_api_Col]], fun x y => s0c s1 x.2.1 y.1.1.1 y.1.1.2.1 y.1.1.2.2.1 y.1.1.2.2.2.1.1 y.1.1.2.2.2.1.2.1 y.1.1.2.2.2.1.2.2.1 y.1.1.2.2.2.1.2.2.2.1 some⟩ := fun x y => Eq.trans (b := s0c s1 x.2.1 y.1.1.1 y.1.1.2.1 y.1.1.2.2.1 y.1.1.2.2.2.1.1 y.1.1.2.2.2.1.2.1 y.1.1.2.2.2.1.2.2.1 y.1.1.2.2.2.1.2.2.2.1 fun r => some (e r)) (by kernel_rfl) (by simp only [s0c, bif_bind, sum_bind, oa, os, on, ofs])
theorem s1_ev : EvA (env g76 g87 s0 s1) [1, 1, 1] [1] e ⟨[.k (.ptr 0 0)], [.box [.g T_api_Col]], fun x y => s1c g76 y.1.1.1 y.1.1.2.1 y.1.1.2.2.1 y.1.1.2.2.2.1.1 y.1.1.2.2.2.1.2.1 y.1.1.2.2.2.1.2.2.1 y.1.1.2.2.2.1.2.2.2.1 some⟩ := fun x y => Eq.trans (b := s1c g76 y.1.1.1 y.1.1.2.1 y.1.1.2.2.1 y.1.1.2.2.2.1.1 y.1.1.2.2.2.1.2.1 y.1.1.2.2.2.1.2.2.1 y.1.1.2.2.2.1.2.2.2.1 fun r => some (e r)) (by kernel_rfl) (by simp only [s1c, bif_bind, sum_bind, oa, os, on, ofs])
end
mutual
def s0 : Nat → Bool → ByteArray → Int → Bool → Int → Int → Int → ByteArray → Option Int
  | 0, _, _, _, _, _, _, _, _ => none
  | k + 1, x0, x1, x2, x3, x4, x5, x6, x7 => s0c (s1 k) x0 x1 x2 x3 x4 x5 x6 x7 some
def s1 : Nat → ByteArray → Int → Bool → Int → Int → Int → ByteArray → Option Int
  | 0, _, _, _, _, _, _, _ => none
  | k + 1, x0, x1, x2, x3, x4, x5, x6 => s1c (transomref04_Check.f k) x0 x1 x2 x3 x4 x5 x6 some
end
def f (k : Nat) (a0 : ByteArray) (a1 : Int) (a2 : Bool) (a3 : Int) (a4 : Int) (a5 : Int) (a6 : ByteArray) : Option Int := c (transomref08_Check.f k) (s0 k) a0 a1 a2 a3 a4 a5 a6 some
noncomputable abbrev E (k : Nat) : FEnv := env (transomref04_Check.f k) (transomref08_Check.f k) (s0 k) (s1 k)
theorem hE (k : Nat) : EnvOK (E k).toEnv := ctsOK (L.cons (transomref04_Check.ok k) (L.cons (transomref08_Check.ok k) L.nil))
theorem segs_ok : ∀ k, ∀ s ∈ [sg0 (s0 k), sg1 (s1 k)], SegB prog f88 0 s
  | 0 => (L.cons (sg_none (L.cons (fun _ _ => rfl) L.nil)) (L.cons (sg_none (L.cons (fun _ _ => rfl) L.nil)) L.nil))
  | k + 1 => (L.cons (sg_ok (hE k) (segs_ok k) (L.cons s0_ev L.nil)) (L.cons (sg_ok (hE k) (segs_ok k) (L.cons s1_ev L.nil)) L.nil))
theorem ok (k : Nat) : CtOK prog 88 (ct (f k)) := fn_ok func88 rfl (by decide) (hE k) (segs_ok k) (L.cons ev L.nil)
end transomref09_CheckCol
namespace transomref08_Find
def e (r : Int) : Res := ⟨.v (.one (.d (.int .i64) r)), []⟩
abbrev G : Type := (List ByteArray) → ByteArray → Option Int
def ct (g : G) : Ct := mkCt 0 [] [⟨[.d (.sl .str), .d .str], [], fun x y => g x.1 x.2.1⟩] e
abbrev S0 : Type := (List ByteArray) → ByteArray → Int → Option Int
def sg0 (s : S0) : Seg := mkSg [4, 1, 0, 1] [] [0, 1, 5] [⟨[.d (.sl .str), .d .str, .d (.int .i64)], [], fun x y => s x.1 x.2.1 x.2.2.1⟩] e
section
variable {β : Type} (s0 : S0)
noncomputable abbrev env : FEnv := mkEnv prog f120 [] 0 [] [sg0 s0]
def c (a0 : List ByteArray) (a1 : ByteArray) (ret : Int → Option β) : Option β := ((s0 a0 a1 (0 : Int)).bind ret)
def s0c (x0 : List ByteArray) (x1 : ByteArray) (x2 : Int) (ret : Int → Option β) : Option β := (bif (decide (x2 < ((List.length x0) : Int))) then (bif ((decide ((0 : Int) ≤ x2)) && (decide (x2 < ((List.length x0) : Int)))) then (bif ((ByteArray.toList (elem Ty.str x0 x2)) == (ByteArray.toList x1)) then (ret (x2)) else ((s0 x0 x1 (IntKind.wrap IntKind.i64 (x2 + (1 : Int)))).bind ret)) else none) else (ret ((-1 : Int))))
variable {s0}
theorem ev : EvA (env s0) [] [0, 1] e ⟨[.d (.sl .str), .d .str], [], fun x y => c s0 x.1 x.2.1 some⟩ := fun x y => Eq.trans (b := c s0 x.1 x.2.1 fun r => some (e r)) (by kernel_rfl) (by simp only [c, bif_bind, sum_bind, oa, os, on, ofs])
theorem s0_ev : EvA (env s0) [4, 1, 0, 1] [0, 1, 5] e ⟨[.d (.sl .str), .d .str, .d (.int .i64)], [], fun x y => s0c s0 x.1 x.2.1 x.2.2.1 some⟩ := fun x y => Eq.trans (b := s0c s0 x.1 x.2.1 x.2.2.1 fun r => some (e r)) (by kernel_rfl) (by simp only [s0c, bif_bind, sum_bind, oa, os, on, ofs])
end
def s0 : Nat → (List ByteArray) → ByteArray → Int → Option Int
  | 0, _, _, _ => none
  | k + 1, x0, x1, x2 => s0c (s0 k) x0 x1 x2 some
def f (k : Nat) (a0 : List ByteArray) (a1 : ByteArray) : Option Int := c (s0 k) a0 a1 some
noncomputable abbrev E (k : Nat) : FEnv := env  (s0 k)
theorem hE (k : Nat) : EnvOK (E k).toEnv := ctsOK L.nil
theorem segs_ok : ∀ k, ∀ s ∈ [sg0 (s0 k)], SegB prog f120 0 s
  | 0 => (L.cons (sg_none (L.cons (fun _ _ => rfl) L.nil)) L.nil)
  | k + 1 => (L.cons (sg_ok (hE k) (segs_ok k) (L.cons s0_ev L.nil)) L.nil)
theorem ok (k : Nat) : CtOK prog 120 (ct (f k)) := fn_ok func120 rfl (by decide) (hE k) (segs_ok k) (L.cons ev L.nil)
end transomref08_Find
namespace transomref08_Unlike
def e (r : Bool) : Res := ⟨.v (.one (.d .bool r)), []⟩
abbrev G : Type := (List ByteArray) → Option Bool
def ct (g : G) : Ct := mkCt 0 [] [⟨[.d (.sl .str)], [], fun x y => g x.1⟩] e
abbrev S0 : Type := (List ByteArray) → Int → Option Bool
def sg0 (s : S0) : Seg := mkSg [4, 1, 0, 1] [] [0, 3] [⟨[.d (.sl .str), .d (.int .i64)], [], fun x y => s x.1 x.2.1⟩] e
section
variable {β : Type} (g120 : transomref08_Find.G) (s0 : S0)
noncomputable abbrev env : FEnv := mkEnv prog f89 [(120, transomref08_Find.ct g120)] 0 [] [sg0 s0]
def c (a0 : List ByteArray) (ret : Bool → Option β) : Option β := ((s0 a0 (0 : Int)).bind ret)
def s0c (x0 : List ByteArray) (x1 : Int) (ret : Bool → Option β) : Option β := (bif (decide (x1 < ((List.length x0) : Int))) then (bif ((decide ((0 : Int) ≤ x1)) && (decide (x1 < ((List.length x0) : Int)))) then ((g120 x0 (elem Ty.str x0 x1)).bind fun r0 => (bif (r0 != x1) then (ret (false)) else ((s0 x0 (IntKind.wrap IntKind.i64 (x1 + (1 : Int)))).bind ret))) else none) else (ret (true)))
variable {g120} {s0}
theorem ev : EvA (env g120 s0) [] [0] e ⟨[.d (.sl .str)], [], fun x y => c s0 x.1 some⟩ := fun x y => Eq.trans (b := c s0 x.1 fun r => some (e r)) (by kernel_rfl) (by simp only [c, bif_bind, sum_bind, oa, os, on, ofs])
theorem s0_ev : EvA (env g120 s0) [4, 1, 0, 1] [0, 3] e ⟨[.d (.sl .str), .d (.int .i64)], [], fun x y => s0c g120 s0 x.1 x.2.1 some⟩ := fun x y => Eq.trans (b := s0c g120 s0 x.1 x.2.1 fun r => some (e r)) (by kernel_rfl) (by simp only [s0c, bif_bind, sum_bind, oa, os, on, ofs])
end
def s0 : Nat → (List ByteArray) → Int → Option Bool
  | 0, _, _ => none
  | k + 1, x0, x1 => s0c (transomref08_Find.f k) (s0 k) x0 x1 some
def f (k : Nat) (a0 : List ByteArray) : Option Bool := c (s0 k) a0 some
noncomputable abbrev E (k : Nat) : FEnv := env (transomref08_Find.f k) (s0 k)
theorem hE (k : Nat) : EnvOK (E k).toEnv := ctsOK (L.cons (transomref08_Find.ok k) L.nil)
theorem segs_ok : ∀ k, ∀ s ∈ [sg0 (s0 k)], SegB prog f89 0 s
  | 0 => (L.cons (sg_none (L.cons (fun _ _ => rfl) L.nil)) L.nil)
  | k + 1 => (L.cons (sg_ok (hE k) (segs_ok k) (L.cons s0_ev L.nil)) L.nil)
theorem ok (k : Nat) : CtOK prog 89 (ct (f k)) := fn_ok func89 rfl (by decide) (hE k) (segs_ok k) (L.cons ev L.nil)
end transomref08_Unlike
namespace transomref09_Names
def e (r : (List ByteArray)) : Res := ⟨.v (.one (.d (.sl .str) r)), []⟩
abbrev G : Type := (List D_api_Col) → Option ((List ByteArray))
def ct (g : G) : Ct := mkCt 0 [] [⟨[.d (.sl T_api_Col)], [], fun x y => g x.1⟩] e
abbrev S0 : Type := (List D_api_Col) → Int → (List ByteArray) → Option ((List ByteArray))
def sg0 (s : S0) : Seg := mkSg [4, 1, 0, 1, 1] [.own 3 .str] [0, 3, 4] [⟨[.d (.sl T_api_Col), .k (.own 0), .d (.int .i64)], [.own .str false], fun x y => s x.1 x.2.2.1 y.1⟩] e
section
variable {β : Type} (s0 : S0)
noncomputable abbrev env : FEnv := mkEnv prog f90 [] 0 [] [sg0 s0]
def c (a0 : List D_api_Col) (ret : ((List ByteArray)) → Option β) : Option β := ((s0 a0 (0 : Int) []).bind ret)
def s0c (x0 : List D_api_Col) (x1 : Int) (x2 : List ByteArray) (ret : ((List ByteArray)) → Option β) : Option β := (bif (decide (x1 < ((List.length x0) : Int))) then (bif ((decide ((0 : Int) ≤ x1)) && (decide (x1 < ((List.length x0) : Int)))) then (bif (decide ((((List.length x2) + (1 : Nat)) * (16 : Nat)) ≤ (35184372088832 : Nat))) then ((s0 x0 (IntKind.wrap IntKind.i64 (x1 + (1 : Int))) (x2 ++ [(elem T_api_Col x0 x1).1])).bind ret) else none) else none) else (ret (x2)))
variable {s0}
theorem ev : EvA (env s0) [] [0] e ⟨[.d (.sl T_api_Col)], [], fun x y => c s0 x.1 some⟩ := fun x y => Eq.trans (b := c s0 x.1 fun r => some (e r)) (by kernel_rfl) (by simp only [c, bif_bind, sum_bind, oa, os, on, ofs])
theorem s0_ev : EvA (env s0) [4, 1, 0, 1, 1] [0, 3, 4] e ⟨[.d (.sl T_api_Col), .k (.own 0), .d (.int .i64)], [.own .str false], fun x y => s0c s0 x.1 x.2.2.1 y.1 some⟩ := fun x y => Eq.trans (b := s0c s0 x.1 x.2.2.1 y.1 fun r => some (e r)) (by kernel_rfl) (by simp only [s0c, bif_bind, sum_bind, oa, os, on, ofs])
end
def s0 : Nat → (List D_api_Col) → Int → (List ByteArray) → Option ((List ByteArray))
  | 0, _, _, _ => none
  | k + 1, x0, x1, x2 => s0c (s0 k) x0 x1 x2 some
def f (k : Nat) (a0 : List D_api_Col) : Option ((List ByteArray)) := c (s0 k) a0 some
noncomputable abbrev E (k : Nat) : FEnv := env  (s0 k)
theorem hE (k : Nat) : EnvOK (E k).toEnv := ctsOK L.nil
theorem segs_ok : ∀ k, ∀ s ∈ [sg0 (s0 k)], SegB prog f90 0 s
  | 0 => (L.cons (sg_none (L.cons (fun _ _ => rfl) L.nil)) L.nil)
  | k + 1 => (L.cons (sg_ok (hE k) (segs_ok k) (L.cons s0_ev L.nil)) L.nil)
theorem ok (k : Nat) : CtOK prog 90 (ct (f k)) := fn_ok func90 rfl (by decide) (hE k) (segs_ok k) (L.cons ev L.nil)
end transomref09_Names
namespace transomref09_Check
def e (r : Int) : Res := ⟨.v (.one (.d (.int .i64) r)), []⟩
abbrev G : Type := ByteArray → Int → (List D_api_Col) → Option Int
def ct (g : G) : Ct := mkCt 0 [] [⟨[.s T_api_Table], [], fun x y => g x.1.1.1 x.1.1.2.1 x.1.1.2.2.1⟩] e
abbrev S0 : Type := Bool → ByteArray → Int → (List D_api_Col) → Option Int
abbrev S1 : Type := ByteArray → Int → (List D_api_Col) → Option Int
abbrev S2 : Type := Bool → ByteArray → Int → (List D_api_Col) → Option Int
abbrev S3 : Type := ByteArray → Int → (List D_api_Col) → Option Int
abbrev S4 : Type := Int → ByteArray → Int → (List D_api_Col) → Option Int
abbrev S5 : Type := Int → ByteArray → Int → (List D_api_Col) → Option Int
def sg0 (s : S0) : Seg := mkSg [1, 0, 1, 1] [] [1, 22] [⟨[.k (.ptr 0 0), .d .bool], [.box [.g T_api_Table]], fun x y => s x.2.1 y.1.1.1 y.1.1.2.1 y.1.1.2.2.1⟩] e
def sg1 (s : S1) : Seg := mkSg [1, 1, 1] [] [1] [⟨[.k (.ptr 0 0)], [.box [.g T_api_Table]], fun x y => s y.1.1.1 y.1.1.2.1 y.1.1.2.2.1⟩] e
def sg2 (s : S2) : Seg := mkSg [1, 0, 1, 1, 1] [] [1, 38] [⟨[.k (.ptr 0 0), .d .bool], [.box [.g T_api_Table]], fun x y => s x.2.1 y.1.1.1 y.1.1.2.1 y.1.1.2.2.1⟩] e
def sg3 (s : S3) : Seg := mkSg [1, 1, 1, 1] [] [1] [⟨[.k (.ptr 0 0)], [.box [.g T_api_Table]], fun x y => s y.1.1.1 y.1.1.2.1 y.1.1.2.2.1⟩] e
def sg4 (s : S4) : Seg := mkSg [4, 1, 0, 1, 1, 1, 1] [] [1, 4] [⟨[.k (.ptr 0 0), .d (.int .i64)], [.box [.g T_api_Table]], fun x y => s x.2.1 y.1.1.1 y.1.1.2.1 y.1.1.2.2.1⟩] e
def sg5 (s : S5) : Seg := mkSg [4, 1, 0, 1, 1, 1, 1, 1, 1] [] [1, 6] [⟨[.k (.ptr 0 0), .d (.int .i64)], [.box [.g T_api_Table]], fun x y => s x.2.1 y.1.1.1 y.1.1.2.1 y.1.1.2.2.1⟩] e
section
variable {β : Type} (g87 : transomref08_Check.G) (g88 : transomref09_CheckCol.G) (g89 : transomref08_Unlike.G) (g90 : transomref09_Names.G) (s0 : S0) (s1 : S1) (s2 : S2) (s3 : S3) (s4 : S4) (s5 : S5)
noncomputable abbrev env : FEnv := mkEnv prog f64 [(87, transomref08_Check.ct g87), (88, transomref09_CheckCol.ct g88), (89, transomref08_Unlike.ct g89), (90, transomref09_Names.ct g90)] 0 [] [sg0 s0, sg1 s1, sg2 s2, sg3 s3, sg4 s4, sg5 s5]
def c (a0 : ByteArray) (a1 : Int) (a2 : List D_api_Col) (ret : Int → Option β) : Option β := ((g87 a0).bind fun r0 => (bif (r0 != (0 : Int)) then (ret (r0)) else (bif (decide (((List.length a2) : Int) < (1 : Int))) then ((s0 true a0 a1 a2).bind ret) else ((s0 (decide (((List.length a2) : Int) > (8 : Int))) a0 a1 a2).bind ret))))
def s0c (x0 : Bool) (x1 : ByteArray) (x2 : Int) (x3 : List D_api_Col) (ret : Int → Option β) : Option β := (bif x0 then (ret ((2 : Int))) else ((s1 x1 x2 x3).bind ret))
def s1c (x0 : ByteArray) (x1 : Int) (x2 : List D_api_Col) (ret : Int → Option β) : Option β := (bif (decide (x1 < (1 : Int))) then ((s2 true x0 x1 x2).bind ret) else (bif (decide (x1 > (3 : Int))) then ((s2 true x0 x1 x2).bind ret) else ((s2 (decide (x1 > ((List.length x2) : Int))) x0 x1 x2).bind ret)))
def s2c (x0 : Bool) (x1 : ByteArray) (x2 : Int) (x3 : List D_api_Col) (ret : Int → Option β) : Option β := (bif x0 then (ret ((1 : Int))) else ((s3 x1 x2 x3).bind ret))
def s3c (x0 : ByteArray) (x1 : Int) (x2 : List D_api_Col) (ret : Int → Option β) : Option β := ((s4 (0 : Int) x0 x1 x2).bind ret)
def s4c (x0 : Int) (x1 : ByteArray) (x2 : Int) (x3 : List D_api_Col) (ret : Int → Option β) : Option β := (bif (decide (x0 < ((List.length x3) : Int))) then (bif ((decide ((0 : Int) ≤ x0)) && (decide (x0 < ((List.length x3) : Int)))) then ((g88 (elem T_api_Col x3 x0).1 (elem T_api_Col x3 x0).2.1 (elem T_api_Col x3 x0).2.2.1 (elem T_api_Col x3 x0).2.2.2.1.1 (elem T_api_Col x3 x0).2.2.2.1.2.1 (elem T_api_Col x3 x0).2.2.2.1.2.2.1 (elem T_api_Col x3 x0).2.2.2.1.2.2.2.1).bind fun r0 => (bif (r0 != (0 : Int)) then (ret (r0)) else ((s4 (IntKind.wrap IntKind.i64 (x0 + (1 : Int))) x1 x2 x3).bind ret))) else none) else ((g90 x3).bind fun r1 => ((g89 r1).bind fun r2 => (bif (!r2) then (ret ((12 : Int))) else ((s5 (0 : Int) x1 x2 x3).bind ret)))))
def s5c (x0 : Int) (x1 : ByteArray) (x2 : Int) (x3 : List D_api_Col) (ret : Int → Option β) : Option β := (bif (decide (x0 < x2)) then (bif ((decide ((0 : Int) ≤ x0)) && (decide (x0 < ((List.length x3) : Int)))) then (bif (elem T_api_Col x3 x0).2.2.1 then (ret ((11 : Int))) else ((s5 (IntKind.wrap IntKind.i64 (x0 + (1 : Int))) x1 x2 x3).bind ret)) else none) else (ret ((0 : Int))))
variable {g87} {g88} {g89} {g90} {s0} {s1} {s2} {s3} {s4} {s5}
theorem ev : EvA (env g87 g88 g89 g90 s0 s1 s2 s3 s4 s5) [] [0] e ⟨[.s T_api_Table], [], fun x y => c g87 s0 x.1.1.1 x.1.1.2.1 x.1.1.2.2.1 some⟩ := fun x y => Eq.trans (b := c g87 s0 x.1.1.1 x.1.1.2.1 x.1.1.2.2.1 fun r => some (e r)) (by kernel_rfl) (by simp only [c, bif_bind, sum_bind, oa, os, on, ofs])
theorem s0_ev : EvA (env g87 g88 g89 g90 s0 s1 s2 s3 s4 s5) [1, 0, 1, 1] [1, 22] e ⟨[.k (.ptr 0 0), .d .bool], [.box [.g T_api_Table]], fun x y => s0c s1 x.2.1 y.1.1.1 y.1.1.2.1 y.1.1.2.2.1 some⟩ := fun x y => Eq.trans (b := s0c s1 x.2.1 y.1.1.1 y.1.1.2.1 y.1.1.2.2.1 fun r => some (e r)) (by kernel_rfl) (by simp only [s0c, bif_bind, sum_bind, oa, os, on, ofs])
theorem s1_ev : EvA (env g87 g88 g89 g90 s0 s1 s2 s3 s4 s5) [1, 1, 1] [1] e ⟨[.k (.ptr 0 0)], [.box [.g T_api_Table]], fun x y => s1c s2 y.1.1.1 y.1.1.2.1 y.1.1.2.2.1 some⟩ := fun x y => Eq.trans (b := s1c s2 y.1.1.1 y.1.1.2.1 y.1.1.2.2.1 fun r => some (e r)) (by kernel_rfl) (by simp only [s1c, bif_bind, sum_bind, oa, os, on, ofs])
theorem s2_ev : EvA (env g87 g88 g89 g90 s0 s1 s2 s3 s4 s5) [1, 0, 1, 1, 1] [1, 38] e ⟨[.k (.ptr 0 0), .d .bool], [.box [.g T_api_Table]], fun x y => s2c s3 x.2.1 y.1.1.1 y.1.1.2.1 y.1.1.2.2.1 some⟩ := fun x y => Eq.trans (b := s2c s3 x.2.1 y.1.1.1 y.1.1.2.1 y.1.1.2.2.1 fun r => some (e r)) (by kernel_rfl) (by simp only [s2c, bif_bind, sum_bind, oa, os, on, ofs])
theorem s3_ev : EvA (env g87 g88 g89 g90 s0 s1 s2 s3 s4 s5) [1, 1, 1, 1] [1] e ⟨[.k (.ptr 0 0)], [.box [.g T_api_Table]], fun x y => s3c s4 y.1.1.1 y.1.1.2.1 y.1.1.2.2.1 some⟩ := fun x y => Eq.trans (b := s3c s4 y.1.1.1 y.1.1.2.1 y.1.1.2.2.1 fun r => some (e r)) (by kernel_rfl) (by simp only [s3c, bif_bind, sum_bind, oa, os, on, ofs])
theorem s4_ev : EvA (env g87 g88 g89 g90 s0 s1 s2 s3 s4 s5) [4, 1, 0, 1, 1, 1, 1] [1, 4] e ⟨[.k (.ptr 0 0), .d (.int .i64)], [.box [.g T_api_Table]], fun x y => s4c g88 g89 g90 s4 s5 x.2.1 y.1.1.1 y.1.1.2.1 y.1.1.2.2.1 some⟩ := fun x y => Eq.trans (b := s4c g88 g89 g90 s4 s5 x.2.1 y.1.1.1 y.1.1.2.1 y.1.1.2.2.1 fun r => some (e r)) (by kernel_rfl) (by simp only [s4c, bif_bind, sum_bind, oa, os, on, ofs])
theorem s5_ev : EvA (env g87 g88 g89 g90 s0 s1 s2 s3 s4 s5) [4, 1, 0, 1, 1, 1, 1, 1, 1] [1, 6] e ⟨[.k (.ptr 0 0), .d (.int .i64)], [.box [.g T_api_Table]], fun x y => s5c s5 x.2.1 y.1.1.1 y.1.1.2.1 y.1.1.2.2.1 some⟩ := fun x y => Eq.trans (b := s5c s5 x.2.1 y.1.1.1 y.1.1.2.1 y.1.1.2.2.1 fun r => some (e r)) (by kernel_rfl) (by simp only [s5c, bif_bind, sum_bind, oa, os, on, ofs])
end
mutual
def s0 : Nat → Bool → ByteArray → Int → (List D_api_Col) → Option Int
  | 0, _, _, _, _ => none
  | k + 1, x0, x1, x2, x3 => s0c (s1 k) x0 x1 x2 x3 some
def s1 : Nat → ByteArray → Int → (List D_api_Col) → Option Int
  | 0, _, _, _ => none
  | k + 1, x0, x1, x2 => s1c (s2 k) x0 x1 x2 some
def s2 : Nat → Bool → ByteArray → Int → (List D_api_Col) → Option Int
  | 0, _, _, _, _ => none
  | k + 1, x0, x1, x2, x3 => s2c (s3 k) x0 x1 x2 x3 some
def s3 : Nat → ByteArray → Int → (List D_api_Col) → Option Int
  | 0, _, _, _ => none
  | k + 1, x0, x1, x2 => s3c (s4 k) x0 x1 x2 some
def s4 : Nat → Int → ByteArray → Int → (List D_api_Col) → Option Int
  | 0, _, _, _, _ => none
  | k + 1, x0, x1, x2, x3 => s4c (transomref09_CheckCol.f k) (transomref08_Unlike.f k) (transomref09_Names.f k) (s4 k) (s5 k) x0 x1 x2 x3 some
def s5 : Nat → Int → ByteArray → Int → (List D_api_Col) → Option Int
  | 0, _, _, _, _ => none
  | k + 1, x0, x1, x2, x3 => s5c (s5 k) x0 x1 x2 x3 some
end
def f (k : Nat) (a0 : ByteArray) (a1 : Int) (a2 : List D_api_Col) : Option Int := c (transomref08_Check.f k) (s0 k) a0 a1 a2 some
noncomputable abbrev E (k : Nat) : FEnv := env (transomref08_Check.f k) (transomref09_CheckCol.f k) (transomref08_Unlike.f k) (transomref09_Names.f k) (s0 k) (s1 k) (s2 k) (s3 k) (s4 k) (s5 k)
theorem hE (k : Nat) : EnvOK (E k).toEnv := ctsOK (L.cons (transomref08_Check.ok k) (L.cons (transomref09_CheckCol.ok k) (L.cons (transomref08_Unlike.ok k) (L.cons (transomref09_Names.ok k) L.nil))))
theorem segs_ok : ∀ k, ∀ s ∈ [sg0 (s0 k), sg1 (s1 k), sg2 (s2 k), sg3 (s3 k), sg4 (s4 k), sg5 (s5 k)], SegB prog f64 0 s
  | 0 => (L.cons (sg_none (L.cons (fun _ _ => rfl) L.nil)) (L.cons (sg_none (L.cons (fun _ _ => rfl) L.nil)) (L.cons (sg_none (L.cons (fun _ _ => rfl) L.nil)) (L.cons (sg_none (L.cons (fun _ _ => rfl) L.nil)) (L.cons (sg_none (L.cons (fun _ _ => rfl) L.nil)) (L.cons (sg_none (L.cons (fun _ _ => rfl) L.nil)) L.nil))))))
  | k + 1 => (L.cons (sg_ok (hE k) (segs_ok k) (L.cons s0_ev L.nil)) (L.cons (sg_ok (hE k) (segs_ok k) (L.cons s1_ev L.nil)) (L.cons (sg_ok (hE k) (segs_ok k) (L.cons s2_ev L.nil)) (L.cons (sg_ok (hE k) (segs_ok k) (L.cons s3_ev L.nil)) (L.cons (sg_ok (hE k) (segs_ok k) (L.cons s4_ev L.nil)) (L.cons (sg_ok (hE k) (segs_ok k) (L.cons s5_ev L.nil)) L.nil))))))
theorem ok (k : Nat) : CtOK prog 64 (ct (f k)) := fn_ok func64 rfl (by decide) (hE k) (segs_ok k) (L.cons ev L.nil)
end transomref09_Check
namespace transomref05_Eight
def e (r : ByteArray) : Res := ⟨.v (.one (.d .str r)), []⟩
abbrev G : Type := Int → Option ByteArray
def ct (g : G) : Ct := mkCt 0 [] [⟨[.d (.int .u64)], [], fun x y => g x.1⟩] e
abbrev S0 : Type := Int → Int → (List Int) → Option ByteArray
def sg0 (s : S0) : Seg := mkSg [4, 1, 0, 1, 1] [.own 3 (.int .u8)] [0, 3, 4] [⟨[.d (.int .u64), .k (.own 0), .d (.int .i64)], [.own (.int .u8) false], fun x y => s x.1 x.2.2.1 y.1⟩] e
section
variable {β : Type} (s0 : S0)
noncomputable abbrev env : FEnv := mkEnv prog f91 [] 0 [] [sg0 s0]
def c (a0 : Int) (ret : ByteArray → Option β) : Option β := ((s0 a0 (0 : Int) []).bind ret)
def s0c (x0 : Int) (x1 : Int) (x2 : List Int) (ret : ByteArray → Option β) : Option β := (bif (decide (x1 < (8 : Int))) then (bif (decide ((0 : Int) ≤ (IntKind.wrap IntKind.u64 (IntKind.wrap IntKind.i64 ((56 : Int) - (IntKind.wrap IntKind.i64 ((8 : Int) * x1))))))) then (bif (decide ((((List.length x2) + (1 : Nat)) * (1 : Nat)) ≤ (35184372088832 : Nat))) then ((s0 x0 (IntKind.wrap IntKind.i64 (x1 + (1 : Int))) (x2 ++ [(IntKind.wrap IntKind.u8 (Int.fdiv x0 ((2 : Int) ^ (Min.min (Int.toNat (IntKind.wrap IntKind.u64 (IntKind.wrap IntKind.i64 ((56 : Int) - (IntKind.wrap IntKind.i64 ((8 : Int) * x1)))))) (64 : Nat)))))])).bind ret) else none) else none) else (ret ((ByteArray.mk (List.toArray (List.map (fun n => (UInt8.ofNat (Int.toNat n))) x2))))))
variable {s0}
theorem ev : EvA (env s0) [] [0] e ⟨[.d (.int .u64)], [], fun x y => c s0 x.1 some⟩ := fun x y => Eq.trans (b := c s0 x.1 fun r => some (e r)) (by kernel_rfl) (by simp only [c, bif_bind, sum_bind, oa, os, on, ofs])
theorem s0_ev : EvA (env s0) [4, 1, 0, 1, 1] [0, 3, 4] e ⟨[.d (.int .u64), .k (.own 0), .d (.int .i64)], [.own (.int .u8) false], fun x y => s0c s0 x.1 x.2.2.1 y.1 some⟩ := fun x y => Eq.trans (b := s0c s0 x.1 x.2.2.1 y.1 fun r => some (e r)) (by kernel_rfl) (by simp only [s0c, bif_bind, sum_bind, oa, os, on, ofs])
end
def s0 : Nat → Int → Int → (List Int) → Option ByteArray
  | 0, _, _, _ => none
  | k + 1, x0, x1, x2 => s0c (s0 k) x0 x1 x2 some
def f (k : Nat) (a0 : Int) : Option ByteArray := c (s0 k) a0 some
noncomputable abbrev E (k : Nat) : FEnv := env  (s0 k)
theorem hE (k : Nat) : EnvOK (E k).toEnv := ctsOK L.nil
theorem segs_ok : ∀ k, ∀ s ∈ [sg0 (s0 k)], SegB prog f91 0 s
  | 0 => (L.cons (sg_none (L.cons (fun _ _ => rfl) L.nil)) L.nil)
  | k + 1 => (L.cons (sg_ok (hE k) (segs_ok k) (L.cons s0_ev L.nil)) L.nil)
theorem ok (k : Nat) : CtOK prog 91 (ct (f k)) := fn_ok func91 rfl (by decide) (hE k) (segs_ok k) (L.cons ev L.nil)
end transomref05_Eight
namespace transomref02_Key
def e (r : Int) : Res := ⟨.v (.one (.d (.int .u64) r)), []⟩
abbrev G : Type := Int → Option Int
def ct (g : G) : Ct := mkCt 0 [] [⟨[.d (.int .u64)], [], fun x y => g x.1⟩] e
section
variable {β : Type} (g104 : transomref02_Canon.G)
noncomputable abbrev env : FEnv := mkEnv prog f92 [(104, transomref02_Canon.ct g104)] 0 [] []
def c (a0 : Int) (ret : Int → Option β) : Option β := ((g104 a0).bind fun r0 => (bif ((Int.fdiv r0 (9223372036854775808 : Int)) == (0 : Int)) then (ret ((IntKind.wrap IntKind.u64 ((BitVec.toNat ((BitVec.ofInt (64 : Nat) r0) ||| (BitVec.ofInt (64 : Nat) (9223372036854775808 : Int)))) : Int)))) else (ret ((IntKind.wrap IntKind.u64 ((BitVec.toNat ((BitVec.ofInt (64 : Nat) (18446744073709551615 : Int)) ^^^ (BitVec.ofInt (64 : Nat) r0))) : Int))))))
variable {g104}
theorem ev : EvA (env g104) [] [0] e ⟨[.d (.int .u64)], [], fun x y => c g104 x.1 some⟩ := fun x y => Eq.trans (b := c g104 x.1 fun r => some (e r)) (by kernel_rfl) (by simp only [c, bif_bind, sum_bind, oa, os, on, ofs])
end
def f (k : Nat) (a0 : Int) : Option Int := c (transomref02_Canon.f k) a0 some
noncomputable abbrev E (k : Nat) : FEnv := env (transomref02_Canon.f k) 
theorem hE (k : Nat) : EnvOK (E k).toEnv := ctsOK (L.cons (transomref02_Canon.ok k) L.nil)
theorem ok (k : Nat) : CtOK prog 92 (ct (f k)) := fn_ok func92 rfl (by decide) (hE k) L.nil (L.cons ev L.nil)
end transomref02_Key
namespace transomref05_escaped
def e (r : ByteArray) : Res := ⟨.v (.one (.d .str r)), []⟩
abbrev G : Type := ByteArray → Option ByteArray
def ct (g : G) : Ct := mkCt 0 [] [⟨[.d .str], [], fun x y => g x.1⟩] e
abbrev S0 : Type := ByteArray → Int → (List Int) → Option ByteArray
abbrev S1 : Type := ByteArray → Int → (List Int) → Option ByteArray
def sg0 (s : S0) : Seg := mkSg [4, 1, 0, 1, 1] [.own 3 (.int .u8)] [0, 3, 4] [⟨[.d .str, .k (.own 0), .d (.int .i64)], [.own (.int .u8) false], fun x y => s x.1 x.2.2.1 y.1⟩] e
def sg1 (s : S1) : Seg := mkSg [1, 1, 5, 4, 1, 0, 1, 1] [] [0, 3, 4] [⟨[.d .str, .k (.own 0), .d (.int .i64)], [.own (.int .u8) false], fun x y => s x.1 x.2.2.1 y.1⟩] e
section
variable {β : Type} (s0 : S0) (s1 : S1)
noncomputable abbrev env : FEnv := mkEnv prog f93 [] 0 [] [sg0 s0, sg1 s1]
def c (a0 : ByteArray) (ret : ByteArray → Option β) : Option β := ((s0 a0 (0 : Int) []).bind ret)
def s0c (x0 : ByteArray) (x1 : Int) (x2 : List Int) (ret : ByteArray → Option β) : Option β := (bif (decide (x1 < ((ByteArray.size x0) : Int))) then (bif ((decide ((0 : Int) ≤ x1)) && (decide (x1 < ((ByteArray.size x0) : Int)))) then (bif (decide ((((List.length x2) + (1 : Nat)) * (1 : Nat)) ≤ (35184372088832 : Nat))) then (bif ((decide ((0 : Int) ≤ x1)) && (decide (x1 < ((ByteArray.size x0) : Int)))) then (bif ((bt x0 x1) == (0 : Int)) then (bif (decide ((((List.length (x2 ++ [(bt x0 x1)])) + (1 : Nat)) * (1 : Nat)) ≤ (35184372088832 : Nat))) then ((s1 x0 x1 ((x2 ++ [(bt x0 x1)]) ++ [(255 : Int)])).bind ret) else none) else ((s1 x0 x1 (x2 ++ [(bt x0 x1)])).bind ret)) else none) else none) else none) else (bif (decide ((((List.length x2) + (2 : Nat)) * (1 : Nat)) ≤ (35184372088832 : Nat))) then (ret ((ByteArray.mk (List.toArray (List.map (fun n => (UInt8.ofNat (Int.toNat n))) (x2 ++ [(0 : Int), (0 : Int)])))))) else none))
def s1c (x0 : ByteArray) (x1 : Int) (x2 : List Int) (ret : ByteArray → Option β) : Option β := ((s0 x0 (IntKind.wrap IntKind.i64 (x1 + (1 : Int))) x2).bind ret)
variable {s0} {s1}
theorem ev : EvA (env s0 s1) [] [0] e ⟨[.d .str], [], fun x y => c s0 x.1 some⟩ := fun x y => Eq.trans (b := c s0 x.1 fun r => some (e r)) (by kernel_rfl) (by simp only [c, bif_bind, sum_bind, oa, os, on, ofs])
theorem s0_ev : EvA (env s0 s1) [4, 1, 0, 1, 1] [0, 3, 4] e ⟨[.d .str, .k (.own 0), .d (.int .i64)], [.own (.int .u8) false], fun x y => s0c s1 x.1 x.2.2.1 y.1 some⟩ := fun x y => Eq.trans (b := s0c s1 x.1 x.2.2.1 y.1 fun r => some (e r)) (by kernel_rfl) (by simp only [s0c, bif_bind, sum_bind, oa, os, on, ofs])
theorem s1_ev : EvA (env s0 s1) [1, 1, 5, 4, 1, 0, 1, 1] [0, 3, 4] e ⟨[.d .str, .k (.own 0), .d (.int .i64)], [.own (.int .u8) false], fun x y => s1c s0 x.1 x.2.2.1 y.1 some⟩ := fun x y => Eq.trans (b := s1c s0 x.1 x.2.2.1 y.1 fun r => some (e r)) (by kernel_rfl) (by simp only [s1c, bif_bind, sum_bind, oa, os, on, ofs])
end
mutual
def s0 : Nat → ByteArray → Int → (List Int) → Option ByteArray
  | 0, _, _, _ => none
  | k + 1, x0, x1, x2 => s0c (s1 k) x0 x1 x2 some
def s1 : Nat → ByteArray → Int → (List Int) → Option ByteArray
  | 0, _, _, _ => none
  | k + 1, x0, x1, x2 => s1c (s0 k) x0 x1 x2 some
end
def f (k : Nat) (a0 : ByteArray) : Option ByteArray := c (s0 k) a0 some
noncomputable abbrev E (k : Nat) : FEnv := env  (s0 k) (s1 k)
theorem hE (k : Nat) : EnvOK (E k).toEnv := ctsOK L.nil
theorem segs_ok : ∀ k, ∀ s ∈ [sg0 (s0 k), sg1 (s1 k)], SegB prog f93 0 s
  | 0 => (L.cons (sg_none (L.cons (fun _ _ => rfl) L.nil)) (L.cons (sg_none (L.cons (fun _ _ => rfl) L.nil)) L.nil))
  | k + 1 => (L.cons (sg_ok (hE k) (segs_ok k) (L.cons s0_ev L.nil)) (L.cons (sg_ok (hE k) (segs_ok k) (L.cons s1_ev L.nil)) L.nil))
theorem ok (k : Nat) : CtOK prog 93 (ct (f k)) := fn_ok func93 rfl (by decide) (hE k) (segs_ok k) (L.cons ev L.nil)
end transomref05_escaped
namespace transomref05_Put
def e (r : ByteArray × Int) : Res := ⟨.tup [(.one (.d .str r.1)), (.one (.d (.int .i64) r.2))], []⟩
abbrev G : Type := Int → Int → Int → ByteArray → Option (ByteArray × Int)
def ct (g : G) : Ct := mkCt 0 [] [⟨[.s T_api_Value], [], fun x y => g x.1.1.1 x.1.1.2.1 x.1.1.2.2.1 x.1.1.2.2.2.1⟩] e
section
variable {β : Type} (g76 : transomref04_Check.G) (g91 : transomref05_Eight.G) (g92 : transomref02_Key.G) (g93 : transomref05_escaped.G)
noncomputable abbrev env : FEnv := mkEnv prog f65 [(76, transomref04_Check.ct g76), (91, transomref05_Eight.ct g91), (92, transomref02_Key.ct g92), (93, transomref05_escaped.ct g93)] 0 [] []
def c (a0 : Int) (a1 : Int) (a2 : Int) (a3 : ByteArray) (ret : (ByteArray × Int) → Option β) : Option β := ((g76 a0 a1 a2 a3).bind fun r0 => (bif (r0 != (0 : Int)) then (ret ((ByteArray.mk (List.toArray [])), r0)) else (bif (a0 == (1 : Int)) then (ret (((ByteArray.mk (List.toArray (List.map (fun n => (UInt8.ofNat (Int.toNat n))) [(IntKind.wrap IntKind.u8 a0)]))) ++ (ByteArray.mk (List.toArray (List.map (fun n => (UInt8.ofNat (Int.toNat n))) [(IntKind.wrap IntKind.u8 a1)])))), (0 : Int))) else (bif (a0 == (2 : Int)) then ((g91 (IntKind.wrap IntKind.u64 ((BitVec.toNat ((BitVec.ofInt (64 : Nat) (IntKind.wrap IntKind.u64 a1)) ^^^ (BitVec.ofInt (64 : Nat) (9223372036854775808 : Int)))) : Int))).bind fun r1 => (bif (true && (decide ((ByteArray.size r1) ≤ (4611686018427387903 : Nat)))) then (ret (((ByteArray.mk (List.toArray (List.map (fun n => (UInt8.ofNat (Int.toNat n))) [(IntKind.wrap IntKind.u8 a0)]))) ++ r1), (0 : Int))) else none)) else (bif (a0 == (3 : Int)) then ((g92 a2).bind fun r2 => ((g91 r2).bind fun r3 => (bif (true && (decide ((ByteArray.size r3) ≤ (4611686018427387903 : Nat)))) then (ret (((ByteArray.mk (List.toArray (List.map (fun n => (UInt8.ofNat (Int.toNat n))) [(IntKind.wrap IntKind.u8 a0)]))) ++ r3), (0 : Int))) else none))) else (bif (a0 == (4 : Int)) then (bif (a0 == (4 : Int)) then ((g93 a3).bind fun r4 => (bif (true && (decide ((ByteArray.size r4) ≤ (4611686018427387903 : Nat)))) then (ret (((ByteArray.mk (List.toArray (List.map (fun n => (UInt8.ofNat (Int.toNat n))) [(IntKind.wrap IntKind.u8 a0)]))) ++ r4), (0 : Int))) else none)) else (ret ((ByteArray.mk (List.toArray (List.map (fun n => (UInt8.ofNat (Int.toNat n))) [(IntKind.wrap IntKind.u8 a0)]))), (0 : Int)))) else (bif (a0 == (5 : Int)) then ((g93 a3).bind fun r5 => (bif (true && (decide ((ByteArray.size r5) ≤ (4611686018427387903 : Nat)))) then (ret (((ByteArray.mk (List.toArray (List.map (fun n => (UInt8.ofNat (Int.toNat n))) [(IntKind.wrap IntKind.u8 a0)]))) ++ r5), (0 : Int))) else none)) else (ret ((ByteArray.mk (List.toArray (List.map (fun n => (UInt8.ofNat (Int.toNat n))) [(IntKind.wrap IntKind.u8 a0)]))), (0 : Int))))))))))
variable {g76} {g91} {g92} {g93}
theorem ev : EvA (env g76 g91 g92 g93) [] [0] e ⟨[.s T_api_Value], [], fun x y => c g76 g91 g92 g93 x.1.1.1 x.1.1.2.1 x.1.1.2.2.1 x.1.1.2.2.2.1 some⟩ := fun x y => Eq.trans (b := c g76 g91 g92 g93 x.1.1.1 x.1.1.2.1 x.1.1.2.2.1 x.1.1.2.2.2.1 fun r => some (e r)) (by kernel_rfl) (by simp only [c, bif_bind, sum_bind, oa, os, on, ofs])
end
def f (k : Nat) (a0 : Int) (a1 : Int) (a2 : Int) (a3 : ByteArray) : Option (ByteArray × Int) := c (transomref04_Check.f k) (transomref05_Eight.f k) (transomref02_Key.f k) (transomref05_escaped.f k) a0 a1 a2 a3 some
noncomputable abbrev E (k : Nat) : FEnv := env (transomref04_Check.f k) (transomref05_Eight.f k) (transomref02_Key.f k) (transomref05_escaped.f k) 
theorem hE (k : Nat) : EnvOK (E k).toEnv := ctsOK (L.cons (transomref04_Check.ok k) (L.cons (transomref05_Eight.ok k) (L.cons (transomref02_Key.ok k) (L.cons (transomref05_escaped.ok k) L.nil))))
theorem ok (k : Nat) : CtOK prog 65 (ct (f k)) := fn_ok func65 rfl (by decide) (hE k) L.nil (L.cons ev L.nil)
end transomref05_Put
namespace transomref09_Put
def e (r : ByteArray × Int) : Res := ⟨.tup [(.one (.d .str r.1)), (.one (.d (.int .i64) r.2))], []⟩
abbrev G : Type := ByteArray → Int → (List D_api_Col) → Option (ByteArray × Int)
def ct (g : G) : Ct := mkCt 0 [] [⟨[.s T_api_Table], [], fun x y => g x.1.1.1 x.1.1.2.1 x.1.1.2.2.1⟩] e
abbrev S0 : Type := ByteArray → Int → ByteArray → Int → (List D_api_Col) → Option (ByteArray × Int)
abbrev S1 : Type := ByteArray → Int → Int → ByteArray → Int → (List D_api_Col) → ByteArray → Int → Bool → Int → Int → Int → ByteArray → Option (ByteArray × Int)
abbrev S2 : Type := ByteArray → Int → ByteArray → Int → (List D_api_Col) → Option (ByteArray × Int)
def sg0 (s : S0) : Seg := mkSg [4, 1, 0, 1, 1, 1] [] [1, 5, 6] [⟨[.k (.ptr 0 0), .d .str, .d (.int .i64)], [.box [.g T_api_Table]], fun x y => s x.2.1 x.2.2.1 y.1.1.1 y.1.1.2.1 y.1.1.2.2.1⟩] e
def sg1 (s : S1) : Seg := mkSg [1, 1, 1, 4, 0, 1, 5, 4, 1, 0, 1, 1, 1] [] [1, 5, 6, 7, 8] [⟨[.k (.ptr 0 0), .d .str, .d (.int .i64), .k (.ptr 1 0), .d (.int .u8)], [.box [.g T_api_Table], .box [.g T_api_Col]], fun x y => s x.2.1 x.2.2.1 x.2.2.2.2.1 y.1.1.1 y.1.1.2.1 y.1.1.2.2.1 y.2.1.1.1 y.2.1.1.2.1 y.2.1.1.2.2.1 y.2.1.1.2.2.2.1.1 y.2.1.1.2.2.2.1.2.1 y.2.1.1.2.2.2.1.2.2.1 y.2.1.1.2.2.2.1.2.2.2.1⟩] e
def sg2 (s : S2) : Seg := mkSg [1, 1, 5, 4, 1, 0, 1, 1, 1] [] [1, 5, 6] [⟨[.k (.ptr 0 0), .d .str, .d (.int .i64)], [.box [.g T_api_Table]], fun x y => s x.2.1 x.2.2.1 y.1.1.1 y.1.1.2.1 y.1.1.2.2.1⟩] e
section
variable {β : Type} (g37 : transomref03_Uint.G) (g38 : transomref03_Text.G) (g64 : transomref09_Check.G) (g65 : transomref05_Put.G) (s0 : S0) (s1 : S1) (s2 : S2)
noncomputable abbrev env : FEnv := mkEnv prog f36 [(37, transomref03_Uint.ct g37), (38, transomref03_Text.ct g38), (64, transomref09_Check.ct g64), (65, transomref05_Put.ct g65)] 0 [] [sg0 s0, sg1 s1, sg2 s2]
def c (a0 : ByteArray) (a1 : Int) (a2 : List D_api_Col) (ret : (ByteArray × Int) → Option β) : Option β := ((g64 a0 a1 a2).bind fun r0 => (bif (r0 != (0 : Int)) then (ret ((ByteArray.mk (List.toArray [])), r0)) else ((g38 a0).bind fun r1 => ((g37 (IntKind.wrap IntKind.u64 a1)).bind fun r2 => (bif ((decide ((ByteArray.size r1) ≤ (4611686018427387903 : Nat))) && (decide ((ByteArray.size r2) ≤ (4611686018427387903 : Nat)))) then ((g37 (IntKind.wrap IntKind.u64 ((List.length a2) : Int))).bind fun r3 => (bif ((decide ((ByteArray.size (r1 ++ r2)) ≤ (4611686018427387903 : Nat))) && (decide ((ByteArray.size r3) ≤ (4611686018427387903 : Nat)))) then ((s0 ((r1 ++ r2) ++ r3) (0 : Int) a0 a1 a2).bind ret) else none)) else none)))))
def s0c (x0 : ByteArray) (x1 : Int) (x2 : ByteArray) (x3 : Int) (x4 : List D_api_Col) (ret : (ByteArray × Int) → Option β) : Option β := (bif (decide (x1 < ((List.length x4) : Int))) then (bif ((decide ((0 : Int) ≤ x1)) && (decide (x1 < ((List.length x4) : Int)))) then (bif (elem T_api_Col x4 x1).2.2.1 then ((s1 x0 x1 (1 : Int) x2 x3 x4 (elem T_api_Col x4 x1).1 (elem T_api_Col x4 x1).2.1 (elem T_api_Col x4 x1).2.2.1 (elem T_api_Col x4 x1).2.2.2.1.1 (elem T_api_Col x4 x1).2.2.2.1.2.1 (elem T_api_Col x4 x1).2.2.2.1.2.2.1 (elem T_api_Col x4 x1).2.2.2.1.2.2.2.1).bind ret) else ((s1 x0 x1 (0 : Int) x2 x3 x4 (elem T_api_Col x4 x1).1 (elem T_api_Col x4 x1).2.1 (elem T_api_Col x4 x1).2.2.1 (elem T_api_Col x4 x1).2.2.2.1.1 (elem T_api_Col x4 x1).2.2.2.1.2.1 (elem T_api_Col x4 x1).2.2.2.1.2.2.1 (elem T_api_Col x4 x1).2.2.2.1.2.2.2.1).bind ret)) else none) else (ret (x0, (0 : Int))))
def s1c (x0 : ByteArray) (x1 : Int) (x2 : Int) (x3 : ByteArray) (x4 : Int) (x5 : List D_api_Col) (x6 : ByteArray) (x7 : Int) (x8 : Bool) (x9 : Int) (x10 : Int) (x11 : Int) (x12 : ByteArray) (ret : (ByteArray × Int) → Option β) : Option β := ((g65 x9 x10 x11 x12).bind fun r0 => ((g38 x6).bind fun r1 => (bif ((decide ((ByteArray.size x0) ≤ (4611686018427387903 : Nat))) && (decide ((ByteArray.size r1) ≤ (4611686018427387903 : Nat)))) then ((g37 (IntKind.wrap IntKind.u64 x7)).bind fun r2 => (bif ((decide ((ByteArray.size (x0 ++ r1)) ≤ (4611686018427387903 : Nat))) && (decide ((ByteArray.size r2) ≤ (4611686018427387903 : Nat)))) then (bif ((decide ((ByteArray.size ((x0 ++ r1) ++ r2)) ≤ (4611686018427387903 : Nat))) && true) then (bif ((decide ((ByteArray.size (((x0 ++ r1) ++ r2) ++ (ByteArray.mk (List.toArray (List.map (fun n => (UInt8.ofNat (Int.toNat n))) [x2]))))) ≤ (4611686018427387903 : Nat))) && (decide ((ByteArray.size r0.1) ≤ (4611686018427387903 : Nat)))) then ((s2 ((((x0 ++ r1) ++ r2) ++ (ByteArray.mk (List.toArray (List.map (fun n => (UInt8.ofNat (Int.toNat n))) [x2])))) ++ r0.1) x1 x3 x4 x5).bind ret) else none) else none) else none)) else none)))
def s2c (x0 : ByteArray) (x1 : Int) (x2 : ByteArray) (x3 : Int) (x4 : List D_api_Col) (ret : (ByteArray × Int) → Option β) : Option β := ((s0 x0 (IntKind.wrap IntKind.i64 (x1 + (1 : Int))) x2 x3 x4).bind ret)
variable {g37} {g38} {g64} {g65} {s0} {s1} {s2}
theorem ev : EvA (env g37 g38 g64 g65 s0 s1 s2) [] [0] e ⟨[.s T_api_Table], [], fun x y => c g37 g38 g64 s0 x.1.1.1 x.1.1.2.1 x.1.1.2.2.1 some⟩ := fun x y => Eq.trans (b := c g37 g38 g64 s0 x.1.1.1 x.1.1.2.1 x.1.1.2.2.1 fun r => some (e r)) (by kernel_rfl) (by simp only [c, bif_bind, sum_bind, oa, os, on, ofs])
theorem s0_ev : EvA (env g37 g38 g64 g65 s0 s1 s2) [4, 1, 0, 1, 1, 1] [1, 5, 6] e ⟨[.k (.ptr 0 0), .d .str, .d (.int .i64)], [.box [.g T_api_Table]], fun x y => s0c s1 x.2.1 x.2.2.1 y.1.1.1 y.1.1.2.1 y.1.1.2.2.1 some⟩ := fun x y => Eq.trans (b := s0c s1 x.2.1 x.2.2.1 y.1.1.1 y.1.1.2.1 y.1.1.2.2.1 fun r => some (e r)) (by kernel_rfl) (by simp only [s0c, bif_bind, sum_bind, oa, os, on, ofs])
theorem s1_ev : EvA (env g37 g38 g64 g65 s0 s1 s2) [1, 1, 1, 4, 0, 1, 5, 4, 1, 0, 1, 1, 1] [1, 5, 6, 7, 8] e ⟨[.k (.ptr 0 0), .d .str, .d (.int .i64), .k (.ptr 1 0), .d (.int .u8)], [.box [.g T_api_Table], .box [.g T_api_Col]], fun x y => s1c g37 g38 g65 s2 x.2.1 x.2.2.1 x.2.2.2.2.1 y.1.1.1 y.1.1.2.1 y.1.1.2.2.1 y.2.1.1.1 y.2.1.1.2.1 y.2.1.1.2.2.1 y.2.1.1.2.2.2.1.1 y.2.1.1.2.2.2.1.2.1 y.2.1.1.2.2.2.1.2.2.1 y.2.1.1.2.2.2.1.2.2.2.1 some⟩ := fun x y => Eq.trans (b := s1c g37 g38 g65 s2 x.2.1 x.2.2.1 x.2.2.2.2.1 y.1.1.1 y.1.1.2.1 y.1.1.2.2.1 y.2.1.1.1 y.2.1.1.2.1 y.2.1.1.2.2.1 y.2.1.1.2.2.2.1.1 y.2.1.1.2.2.2.1.2.1 y.2.1.1.2.2.2.1.2.2.1 y.2.1.1.2.2.2.1.2.2.2.1 fun r => some (e r)) (by kernel_rfl) (by simp only [s1c, bif_bind, sum_bind, oa, os, on, ofs])
theorem s2_ev : EvA (env g37 g38 g64 g65 s0 s1 s2) [1, 1, 5, 4, 1, 0, 1, 1, 1] [1, 5, 6] e ⟨[.k (.ptr 0 0), .d .str, .d (.int .i64)], [.box [.g T_api_Table]], fun x y => s2c s0 x.2.1 x.2.2.1 y.1.1.1 y.1.1.2.1 y.1.1.2.2.1 some⟩ := fun x y => Eq.trans (b := s2c s0 x.2.1 x.2.2.1 y.1.1.1 y.1.1.2.1 y.1.1.2.2.1 fun r => some (e r)) (by kernel_rfl) (by simp only [s2c, bif_bind, sum_bind, oa, os, on, ofs])
end
mutual
def s0 : Nat → ByteArray → Int → ByteArray → Int → (List D_api_Col) → Option (ByteArray × Int)
  | 0, _, _, _, _, _ => none
  | k + 1, x0, x1, x2, x3, x4 => s0c (s1 k) x0 x1 x2 x3 x4 some
def s1 : Nat → ByteArray → Int → Int → ByteArray → Int → (List D_api_Col) → ByteArray → Int → Bool → Int → Int → Int → ByteArray → Option (ByteArray × Int)
  | 0, _, _, _, _, _, _, _, _, _, _, _, _, _ => none
  | k + 1, x0, x1, x2, x3, x4, x5, x6, x7, x8, x9, x10, x11, x12 => s1c (transomref03_Uint.f k) (transomref03_Text.f k) (transomref05_Put.f k) (s2 k) x0 x1 x2 x3 x4 x5 x6 x7 x8 x9 x10 x11 x12 some
def s2 : Nat → ByteArray → Int → ByteArray → Int → (List D_api_Col) → Option (ByteArray × Int)
  | 0, _, _, _, _, _ => none
  | k + 1, x0, x1, x2, x3, x4 => s2c (s0 k) x0 x1 x2 x3 x4 some
end
def f (k : Nat) (a0 : ByteArray) (a1 : Int) (a2 : List D_api_Col) : Option (ByteArray × Int) := c (transomref03_Uint.f k) (transomref03_Text.f k) (transomref09_Check.f k) (s0 k) a0 a1 a2 some
noncomputable abbrev E (k : Nat) : FEnv := env (transomref03_Uint.f k) (transomref03_Text.f k) (transomref09_Check.f k) (transomref05_Put.f k) (s0 k) (s1 k) (s2 k)
theorem hE (k : Nat) : EnvOK (E k).toEnv := ctsOK (L.cons (transomref03_Uint.ok k) (L.cons (transomref03_Text.ok k) (L.cons (transomref09_Check.ok k) (L.cons (transomref05_Put.ok k) L.nil))))
theorem segs_ok : ∀ k, ∀ s ∈ [sg0 (s0 k), sg1 (s1 k), sg2 (s2 k)], SegB prog f36 0 s
  | 0 => (L.cons (sg_none (L.cons (fun _ _ => rfl) L.nil)) (L.cons (sg_none (L.cons (fun _ _ => rfl) L.nil)) (L.cons (sg_none (L.cons (fun _ _ => rfl) L.nil)) L.nil)))
  | k + 1 => (L.cons (sg_ok (hE k) (segs_ok k) (L.cons s0_ev L.nil)) (L.cons (sg_ok (hE k) (segs_ok k) (L.cons s1_ev L.nil)) (L.cons (sg_ok (hE k) (segs_ok k) (L.cons s2_ev L.nil)) L.nil)))
theorem ok (k : Nat) : CtOK prog 36 (ct (f k)) := fn_ok func36 rfl (by decide) (hE k) (segs_ok k) (L.cons ev L.nil)
end transomref09_Put
end Go.Proofs.YtaehpfmnejeddaaGreatDoor.Aev
