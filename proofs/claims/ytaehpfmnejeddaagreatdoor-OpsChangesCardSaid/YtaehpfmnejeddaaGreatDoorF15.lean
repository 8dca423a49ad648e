/- By a program of this session (AEV): functions of the program as plain functions, and that the machine does what they say. -/
import Derived.Test.YtaehpfmnejeddaaGreatDoorTys
import Derived.Test.YtaehpfmnejeddaaGreatDoorProg
import Derived.Laws.Externs
import Derived.Lib.Bytealg
import Derived.Test.YtaehpfmnejeddaaGreatDoorF7
import Derived.Test.YtaehpfmnejeddaaGreatDoorF9
import Derived.Test.YtaehpfmnejeddaaGreatDoorF10
import Derived.Test.YtaehpfmnejeddaaGreatDoorF13
namespace Go.Proofs.YtaehpfmnejeddaaGreatDoor.Aev
set_option linter.unusedVariables false
set_option linter.unusedSimpArgs false
set_option maxRecDepth 100000
set_option maxHeartbeats 4000000
open Go Go.Proofs.Tryz
namespace transomref04_SameRow
def e (r : Bool) : Res := ⟨.v (.one (.d .bool r)), []⟩
abbrev G : Type := (List D_api_Value) → (List D_api_Value) → Option Bool
def ct (g : G) : Ct := mkCt 0 [] [⟨[.d (.sl T_api_Value), .d (.sl T_api_Value)], [], fun x y => g x.1 x.2.1⟩] e
abbrev S0 : Type := (List D_api_Value) → (List D_api_Value) → Int → Option Bool
def sg0 (s : S0) : Seg := mkSg [4, 1, 0, 1, 1] [] [0, 1, 5] [⟨[.d (.sl T_api_Value), .d (.sl T_api_Value), .d (.int .i64)], [], fun x y => s x.1 x.2.1 x.2.2.1⟩] e
section
variable {β : Type} (g72 : transomref04_Same.G) (s0 : S0)
noncomputable abbrev env : FEnv := mkEnv prog f80 [(72, transomref04_Same.ct g72)] 0 [] [sg0 s0]
def c (a0 : List D_api_Value) (a1 : List D_api_Value) (ret : Bool → Option β) : Option β := (bif (((List.length a0) : Int) != ((List.length a1) : Int)) then (ret (false)) else ((s0 a0 a1 (0 : Int)).bind ret))
def s0c (x0 : List D_api_Value) (x1 : List D_api_Value) (x2 : Int) (ret : Bool → Option β) : Option β := (bif (decide (x2 < ((List.length x0) : Int))) then (bif ((decide ((0 : Int) ≤ x2)) && (decide (x2 < ((List.length x0) : Int)))) then (bif ((decide ((0 : Int) ≤ x2)) && (decide (x2 < ((List.length x1) : Int)))) then ((g72 (elem T_api_Value x0 x2).1 (elem T_api_Value x0 x2).2.1 (elem T_api_Value x0 x2).2.2.1 (elem T_api_Value x0 x2).2.2.2.1 (elem T_api_Value x1 x2).1 (elem T_api_Value x1 x2).2.1 (elem T_api_Value x1 x2).2.2.1 (elem T_api_Value x1 x2).2.2.2.1).bind fun r0 => (bif (!r0) then (ret (false)) else ((s0 x0 x1 (IntKind.wrap IntKind.i64 (x2 + (1 : Int)))).bind ret))) else none) else none) else (ret (true)))
variable {g72} {s0}
theorem ev : EvA (env g72 s0) [] [0, 1] e ⟨[.d (.sl T_api_Value), .d (.sl T_api_Value)], [], fun x y => c s0 x.1 x.2.1 some⟩ := fun x y => Eq.trans (b := c s0 x.1 x.2.1 fun r => some (e r)) (by kernel_rfl) (by simp only [c, bif_bind, sum_bind, oa, os, on, ofs])
theorem s0_ev : EvA (env g72 s0) [4, 1, 0, 1, 1] [0, 1, 5] e ⟨[.d (.sl T_api_Value), .d (.sl T_api_Value), .d (.int .i64)], [], fun x y => s0c g72 s0 x.1 x.2.1 x.2.2.1 some⟩ := fun x y => Eq.trans (b := s0c g72 s0 x.1 x.2.1 x.2.2.1 fun r => some (e r)) (by kernel_rfl) (by simp only [s0c, bif_bind, sum_bind, oa, os, on, ofs])
end
def s0 : Nat → (List D_api_Value) → (List D_api_Value) → Int → Option Bool
  | 0, _, _, _ => none
  | k + 1, x0, x1, x2 => s0c (transomref04_Same.f k) (s0 k) x0 x1 x2 some
def f (k : Nat) (a0 : List D_api_Value) (a1 : List D_api_Value) : Option Bool := c (s0 k) a0 a1 some
noncomputable abbrev E (k : Nat) : FEnv := env (transomref04_Same.f k) (s0 k)
theorem hE (k : Nat) : EnvOK (E k).toEnv := ctsOK (L.cons (transomref04_Same.ok k) L.nil)
theorem segs_ok : ∀ k, ∀ s ∈ [sg0 (s0 k)], SegB prog f80 0 s
  | 0 => (L.cons (sg_none (L.cons (fun _ _ => rfl) L.nil)) L.nil)
  | k + 1 => (L.cons (sg_ok (hE k) (segs_ok k) (L.cons s0_ev L.nil)) L.nil)
theorem ok (k : Nat) : CtOK prog 80 (ct (f k)) := fn_ok func80 rfl (by decide) (hE k) (segs_ok k) (L.cons ev L.nil)
end transomref04_SameRow
namespace transomref06_Same
def e (r : Bool) : Res := ⟨.v (.one (.d .bool r)), []⟩
abbrev G : Type := (List D_api_Value) → (List D_api_Value) → Option Bool
def ct (g : G) : Ct := mkCt 0 [] [⟨[.d (.sl T_api_Value), .d (.sl T_api_Value)], [], fun x y => g x.1 x.2.1⟩] e
section
variable {β : Type} (g80 : transomref04_SameRow.G)
noncomputable abbrev env : FEnv := mkEnv prog f57 [(80, transomref04_SameRow.ct g80)] 0 [] []
def c (a0 : List D_api_Value) (a1 : List D_api_Value) (ret : Bool → Option β) : Option β := ((g80 a0 a1).bind fun r0 => (ret (r0)))
variable {g80}
theorem ev : EvA (env g80) [] [0, 1] e ⟨[.d (.sl T_api_Value), .d (.sl T_api_Value)], [], fun x y => c g80 x.1 x.2.1 some⟩ := fun x y => Eq.trans (b := c g80 x.1 x.2.1 fun r => some (e r)) (by kernel_rfl) (by simp only [c, bif_bind, sum_bind, oa, os, on, ofs])
end
def f (k : Nat) (a0 : List D_api_Value) (a1 : List D_api_Value) : Option Bool := c (transomref04_SameRow.f k) a0 a1 some
noncomputable abbrev E (k : Nat) : FEnv := env (transomref04_SameRow.f k) 
theorem hE (k : Nat) : EnvOK (E k).toEnv := ctsOK (L.cons (transomref04_SameRow.ok k) L.nil)
theorem ok (k : Nat) : CtOK prog 57 (ct (f k)) := fn_ok func57 rfl (by decide) (hE k) L.nil (L.cons ev L.nil)
end transomref06_Same
namespace transomref14_Same
def e (r : Bool) : Res := ⟨.v (.one (.d .bool r)), []⟩
abbrev G : Type := D_api_Op → D_api_Op → Option Bool
def ct (g : G) : Ct := mkCt 0 [] [⟨[.s T_api_Op, .s T_api_Op], [], fun x y => g x.1.1 x.2.1.1⟩] e
abbrev S0 : Type := Bool → D_api_Op → D_api_Op → Option Bool
abbrev S1 : Type := D_api_Op → D_api_Op → Option Bool
def sg0 (s : S0) : Seg := mkSg [1, 0, 1] [] [2, 3, 51] [⟨[.k (.ptr 0 0), .k (.ptr 1 0), .d .bool], [.box [.g T_api_Op], .box [.g T_api_Op]], fun x y => s x.2.2.1 y.1.1 y.2.1.1⟩] e
def sg1 (s : S1) : Seg := mkSg [1, 1] [] [2, 3] [⟨[.k (.ptr 0 0), .k (.ptr 1 0)], [.box [.g T_api_Op], .box [.g T_api_Op]], fun x y => s y.1.1 y.2.1.1⟩] e
section
variable {β : Type} (g11 : transomref14_PutChange.G) (g57 : transomref06_Same.G) (s0 : S0) (s1 : S1)
noncomputable abbrev env : FEnv := mkEnv prog f20 [(11, transomref14_PutChange.ct g11), (57, transomref06_Same.ct g57)] 0 [] [sg0 s0, sg1 s1]
def c (a0 : D_api_Op) (a1 : D_api_Op) (ret : Bool → Option β) : Option β := (bif (a0.1 != a1.1) then ((s0 true a0 a1).bind ret) else (bif (!((ByteArray.toList a0.2.1) == (ByteArray.toList a1.2.1))) then ((s0 true a0 a1).bind ret) else (bif (a0.2.2.2.2.2.1 != a1.2.2.2.2.2.1) then ((s0 true a0 a1).bind ret) else ((g57 a0.2.2.1 a1.2.2.1).bind fun r0 => (bif (!r0) then ((s0 true a0 a1).bind ret) else ((g57 a0.2.2.2.1 a1.2.2.2.1).bind fun r1 => (bif (!r1) then ((s0 true (a0.1, (a0.2.1, (a0.2.2.1, (a0.2.2.2.1, (a0.2.2.2.2.1, (a0.2.2.2.2.2.1, ((a0.2.2.2.2.2.2.1.1, (a0.2.2.2.2.2.2.1.2.1, (a0.2.2.2.2.2.2.1.2.2.1, (a0.2.2.2.2.2.2.1.2.2.2.1, (a0.2.2.2.2.2.2.1.2.2.2.2.1, (a0.2.2.2.2.2.2.1.2.2.2.2.2.1, (a0.2.2.2.2.2.2.1.2.2.2.2.2.2.1, (a0.2.2.2.2.2.2.1.2.2.2.2.2.2.2.1, ((a0.2.2.2.2.2.2.1.2.2.2.2.2.2.2.2.1.1, (a0.2.2.2.2.2.2.1.2.2.2.2.2.2.2.2.1.2.1, (a0.2.2.2.2.2.2.1.2.2.2.2.2.2.2.2.1.2.2.1, ((a0.2.2.2.2.2.2.1.2.2.2.2.2.2.2.2.1.2.2.2.1.1, (a0.2.2.2.2.2.2.1.2.2.2.2.2.2.2.2.1.2.2.2.1.2.1, (a0.2.2.2.2.2.2.1.2.2.2.2.2.2.2.2.1.2.2.2.1.2.2.1, (a0.2.2.2.2.2.2.1.2.2.2.2.2.2.2.2.1.2.2.2.1.2.2.2.1, ())))), ())))), ((a0.2.2.2.2.2.2.1.2.2.2.2.2.2.2.2.2.1.1, (a0.2.2.2.2.2.2.1.2.2.2.2.2.2.2.2.2.1.2.1, (a0.2.2.2.2.2.2.1.2.2.2.2.2.2.2.2.2.1.2.2.1, ()))), ())))))))))), ()))))))) (a1.1, (a1.2.1, (a1.2.2.1, (a1.2.2.2.1, (a1.2.2.2.2.1, (a1.2.2.2.2.2.1, ((a1.2.2.2.2.2.2.1.1, (a1.2.2.2.2.2.2.1.2.1, (a1.2.2.2.2.2.2.1.2.2.1, (a1.2.2.2.2.2.2.1.2.2.2.1, (a1.2.2.2.2.2.2.1.2.2.2.2.1, (a1.2.2.2.2.2.2.1.2.2.2.2.2.1, (a1.2.2.2.2.2.2.1.2.2.2.2.2.2.1, (a1.2.2.2.2.2.2.1.2.2.2.2.2.2.2.1, ((a1.2.2.2.2.2.2.1.2.2.2.2.2.2.2.2.1.1, (a1.2.2.2.2.2.2.1.2.2.2.2.2.2.2.2.1.2.1, (a1.2.2.2.2.2.2.1.2.2.2.2.2.2.2.2.1.2.2.1, ((a1.2.2.2.2.2.2.1.2.2.2.2.2.2.2.2.1.2.2.2.1.1, (a1.2.2.2.2.2.2.1.2.2.2.2.2.2.2.2.1.2.2.2.1.2.1, (a1.2.2.2.2.2.2.1.2.2.2.2.2.2.2.2.1.2.2.2.1.2.2.1, (a1.2.2.2.2.2.2.1.2.2.2.2.2.2.2.2.1.2.2.2.1.2.2.2.1, ())))), ())))), ((a1.2.2.2.2.2.2.1.2.2.2.2.2.2.2.2.2.1.1, (a1.2.2.2.2.2.2.1.2.2.2.2.2.2.2.2.2.1.2.1, (a1.2.2.2.2.2.2.1.2.2.2.2.2.2.2.2.2.1.2.2.1, ()))), ())))))))))), ())))))))).bind ret) else ((g57 a0.2.2.2.2.1 a1.2.2.2.2.1).bind fun r2 => ((s0 (!r2) (a0.1, (a0.2.1, (a0.2.2.1, (a0.2.2.2.1, (a0.2.2.2.2.1, (a0.2.2.2.2.2.1, ((a0.2.2.2.2.2.2.1.1, (a0.2.2.2.2.2.2.1.2.1, (a0.2.2.2.2.2.2.1.2.2.1, (a0.2.2.2.2.2.2.1.2.2.2.1, (a0.2.2.2.2.2.2.1.2.2.2.2.1, (a0.2.2.2.2.2.2.1.2.2.2.2.2.1, (a0.2.2.2.2.2.2.1.2.2.2.2.2.2.1, (a0.2.2.2.2.2.2.1.2.2.2.2.2.2.2.1, ((a0.2.2.2.2.2.2.1.2.2.2.2.2.2.2.2.1.1, (a0.2.2.2.2.2.2.1.2.2.2.2.2.2.2.2.1.2.1, (a0.2.2.2.2.2.2.1.2.2.2.2.2.2.2.2.1.2.2.1, ((a0.2.2.2.2.2.2.1.2.2.2.2.2.2.2.2.1.2.2.2.1.1, (a0.2.2.2.2.2.2.1.2.2.2.2.2.2.2.2.1.2.2.2.1.2.1, (a0.2.2.2.2.2.2.1.2.2.2.2.2.2.2.2.1.2.2.2.1.2.2.1, (a0.2.2.2.2.2.2.1.2.2.2.2.2.2.2.2.1.2.2.2.1.2.2.2.1, ())))), ())))), ((a0.2.2.2.2.2.2.1.2.2.2.2.2.2.2.2.2.1.1, (a0.2.2.2.2.2.2.1.2.2.2.2.2.2.2.2.2.1.2.1, (a0.2.2.2.2.2.2.1.2.2.2.2.2.2.2.2.2.1.2.2.1, ()))), ())))))))))), ()))))))) (a1.1, (a1.2.1, (a1.2.2.1, (a1.2.2.2.1, (a1.2.2.2.2.1, (a1.2.2.2.2.2.1, ((a1.2.2.2.2.2.2.1.1, (a1.2.2.2.2.2.2.1.2.1, (a1.2.2.2.2.2.2.1.2.2.1, (a1.2.2.2.2.2.2.1.2.2.2.1, (a1.2.2.2.2.2.2.1.2.2.2.2.1, (a1.2.2.2.2.2.2.1.2.2.2.2.2.1, (a1.2.2.2.2.2.2.1.2.2.2.2.2.2.1, (a1.2.2.2.2.2.2.1.2.2.2.2.2.2.2.1, ((a1.2.2.2.2.2.2.1.2.2.2.2.2.2.2.2.1.1, (a1.2.2.2.2.2.2.1.2.2.2.2.2.2.2.2.1.2.1, (a1.2.2.2.2.2.2.1.2.2.2.2.2.2.2.2.1.2.2.1, ((a1.2.2.2.2.2.2.1.2.2.2.2.2.2.2.2.1.2.2.2.1.1, (a1.2.2.2.2.2.2.1.2.2.2.2.2.2.2.2.1.2.2.2.1.2.1, (a1.2.2.2.2.2.2.1.2.2.2.2.2.2.2.2.1.2.2.2.1.2.2.1, (a1.2.2.2.2.2.2.1.2.2.2.2.2.2.2.2.1.2.2.2.1.2.2.2.1, ())))), ())))), ((a1.2.2.2.2.2.2.1.2.2.2.2.2.2.2.2.2.1.1, (a1.2.2.2.2.2.2.1.2.2.2.2.2.2.2.2.2.1.2.1, (a1.2.2.2.2.2.2.1.2.2.2.2.2.2.2.2.2.1.2.2.1, ()))), ())))))))))), ())))))))).bind ret)))))))))
def s0c (x0 : Bool) (x1 : D_api_Op) (x2 : D_api_Op) (ret : Bool → Option β) : Option β := (bif x0 then (ret (false)) else ((s1 x1 x2).bind ret))
def s1c (x0 : D_api_Op) (x1 : D_api_Op) (ret : Bool → Option β) : Option β := (bif (x0.1 != (6 : Int)) then (ret (true)) else ((g11 x0.2.2.2.2.2.2.1).bind fun r0 => ((g11 x1.2.2.2.2.2.2.1).bind fun r1 => (bif (r0.2 == (0 : Int)) then (bif (r1.2 == (0 : Int)) then (ret (((ByteArray.toList r0.1) == (ByteArray.toList r1.1)))) else (ret (false))) else (ret (false))))))
variable {g11} {g57} {s0} {s1}
theorem ev : EvA (env g11 g57 s0 s1) [] [0, 1] e ⟨[.s T_api_Op, .s T_api_Op], [], fun x y => c g57 s0 x.1.1 x.2.1.1 some⟩ := fun x y => Eq.trans (b := c g57 s0 x.1.1 x.2.1.1 fun r => some (e r)) (by kernel_rfl) (by simp only [c, bif_bind, sum_bind, oa, os, on, ofs])
theorem s0_ev : EvA (env g11 g57 s0 s1) [1, 0, 1] [2, 3, 51] e ⟨[.k (.ptr 0 0), .k (.ptr 1 0), .d .bool], [.box [.g T_api_Op], .box [.g T_api_Op]], fun x y => s0c s1 x.2.2.1 y.1.1 y.2.1.1 some⟩ := fun x y => Eq.trans (b := s0c s1 x.2.2.1 y.1.1 y.2.1.1 fun r => some (e r)) (by kernel_rfl) (by simp only [s0c, bif_bind, sum_bind, oa, os, on, ofs])
theorem s1_ev : EvA (env g11 g57 s0 s1) [1, 1] [2, 3] e ⟨[.k (.ptr 0 0), .k (.ptr 1 0)], [.box [.g T_api_Op], .box [.g T_api_Op]], fun x y => s1c g11 y.1.1 y.2.1.1 some⟩ := fun x y => Eq.trans (b := s1c g11 y.1.1 y.2.1.1 fun r => some (e r)) (by kernel_rfl) (by simp only [s1c, bif_bind, sum_bind, oa, os, on, ofs])
end
mutual
def s0 : Nat → Bool → D_api_Op → D_api_Op → Option Bool
  | 0, _, _, _ => none
  | k + 1, x0, x1, x2 => s0c (s1 k) x0 x1 x2 some
def s1 : Nat → D_api_Op → D_api_Op → Option Bool
  | 0, _, _ => none
  | k + 1, x0, x1 => s1c (transomref14_PutChange.f k) x0 x1 some
end
def f (k : Nat) (a0 : D_api_Op) (a1 : D_api_Op) : Option Bool := c (transomref06_Same.f k) (s0 k) a0 a1 some
noncomputable abbrev E (k : Nat) : FEnv := env (transomref14_PutChange.f k) (transomref06_Same.f k) (s0 k) (s1 k)
theorem hE (k : Nat) : EnvOK (E k).toEnv := ctsOK (L.cons (transomref14_PutChange.ok k) (L.cons (transomref06_Same.ok k) L.nil))
theorem segs_ok : ∀ k, ∀ s ∈ [sg0 (s0 k), sg1 (s1 k)], SegB prog f20 0 s
  | 0 => (L.cons (sg_none (L.cons (fun _ _ => rfl) L.nil)) (L.cons (sg_none (L.cons (fun _ _ => rfl) L.nil)) L.nil))
  | k + 1 => (L.cons (sg_ok (hE k) (segs_ok k) (L.cons s0_ev L.nil)) (L.cons (sg_ok (hE k) (segs_ok k) (L.cons s1_ev L.nil)) L.nil))
theorem ok (k : Nat) : CtOK prog 20 (ct (f k)) := fn_ok func20 rfl (by decide) (hE k) (segs_ok k) (L.cons ev L.nil)
end transomref14_Same
end Go.Proofs.YtaehpfmnejeddaaGreatDoor.Aev
