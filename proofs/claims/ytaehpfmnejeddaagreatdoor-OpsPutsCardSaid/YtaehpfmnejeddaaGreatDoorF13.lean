/- By a program of this session (AEV): functions of the program as plain functions, and that the machine does what they say. -/
import Derived.Test.YtaehpfmnejeddaaGreatDoorTys
import Derived.Test.YtaehpfmnejeddaaGreatDoorProg
import Derived.Laws.Externs
import Derived.Lib.Bytealg
import Derived.Test.YtaehpfmnejeddaaGreatDoorF0
import Derived.Test.YtaehpfmnejeddaaGreatDoorF6
import Derived.Test.YtaehpfmnejeddaaGreatDoorF7
import Derived.Test.YtaehpfmnejeddaaGreatDoorF8
import Derived.Test.YtaehpfmnejeddaaGreatDoorF9
namespace Go.Proofs.YtaehpfmnejeddaaGreatDoor.Aev
set_option linter.unusedVariables false
set_option linter.unusedSimpArgs false
set_option maxRecDepth 100000
set_option maxHeartbeats 4000000
open Go Go.Proofs.Tryz
namespace transomlaw05_Few
def e (r : Int) : Res := ⟨.v (.one (.d (.int .i64) r)), []⟩
abbrev G : Type := (List D_api_Value) → Option Int
def ct (g : G) : Ct := mkCt 0 [] [⟨[.d (.sl T_api_Value)], [], fun x y => g x.1⟩] e
abbrev S0 : Type := (List D_api_Value) → Int → Option Int
def sg0 (s : S0) : Seg := mkSg [4, 1, 0, 1, 1] [] [0, 3] [⟨[.d (.sl T_api_Value), .d (.int .i64)], [], fun x y => s x.1 x.2.1⟩] e
section
variable {β : Type} (g27 : transomlaw04_Few.G) (s0 : S0)
noncomputable abbrev env : FEnv := mkEnv prog f49 [(27, transomlaw04_Few.ct g27)] 0 [] [sg0 s0]
def c (a0 : List D_api_Value) (ret : Int → Option β) : Option β := (bif (decide (((List.length a0) : Int) > (30 : Int))) then (ret ((0 : Int))) else ((s0 a0 (0 : Int)).bind ret))
def s0c (x0 : List D_api_Value) (x1 : Int) (ret : Int → Option β) : Option β := (bif (decide (x1 < ((List.length x0) : Int))) then (bif ((decide ((0 : Int) ≤ x1)) && (decide (x1 < ((List.length x0) : Int)))) then ((g27 (elem T_api_Value x0 x1).1 (elem T_api_Value x0 x1).2.1 (elem T_api_Value x0 x1).2.2.1 (elem T_api_Value x0 x1).2.2.2.1).bind fun r0 => (bif (r0 == (0 : Int)) then (ret ((0 : Int))) else ((s0 x0 (IntKind.wrap IntKind.i64 (x1 + (1 : Int)))).bind ret))) else none) else (ret ((1 : Int))))
variable {g27} {s0}
theorem ev : EvA (env g27 s0) [] [0] e ⟨[.d (.sl T_api_Value)], [], fun x y => c s0 x.1 some⟩ := fun x y => Eq.trans (b := c s0 x.1 fun r => some (e r)) (by kernel_rfl) (by simp only [c, bif_bind, sum_bind, oa, os, on, ofs])
theorem s0_ev : EvA (env g27 s0) [4, 1, 0, 1, 1] [0, 3] e ⟨[.d (.sl T_api_Value), .d (.int .i64)], [], fun x y => s0c g27 s0 x.1 x.2.1 some⟩ := fun x y => Eq.trans (b := s0c g27 s0 x.1 x.2.1 fun r => some (e r)) (by kernel_rfl) (by simp only [s0c, bif_bind, sum_bind, oa, os, on, ofs])
end
def s0 : Nat → (List D_api_Value) → Int → Option Int
  | 0, _, _ => none
  | k + 1, x0, x1 => s0c (transomlaw04_Few.f k) (s0 k) x0 x1 some
def f (k : Nat) (a0 : List D_api_Value) : Option Int := c (s0 k) a0 some
noncomputable abbrev E (k : Nat) : FEnv := env (transomlaw04_Few.f k) (s0 k)
theorem hE (k : Nat) : EnvOK (E k).toEnv := ctsOK (L.cons (transomlaw04_Few.ok k) L.nil)
theorem segs_ok : ∀ k, ∀ s ∈ [sg0 (s0 k)], SegB prog f49 0 s
  | 0 => (L.cons (sg_none (L.cons (fun _ _ => rfl) L.nil)) L.nil)
  | k + 1 => (L.cons (sg_ok (hE k) (segs_ok k) (L.cons s0_ev L.nil)) L.nil)
theorem ok (k : Nat) : CtOK prog 49 (ct (f k)) := fn_ok func49 rfl (by decide) (hE k) (segs_ok k) (L.cons ev L.nil)
end transomlaw05_Few
namespace transomlaw13_FewOp
def e (r : Int) : Res := ⟨.v (.one (.d (.int .i64) r)), []⟩
abbrev G : Type := D_api_Op → Option Int
def ct (g : G) : Ct := mkCt 0 [] [⟨[.s T_api_Op], [], fun x y => g x.1.1⟩] e
section
variable {β : Type} (g8 : transomlaw10_Few.G) (g49 : transomlaw05_Few.G)
noncomputable abbrev env : FEnv := mkEnv prog f15 [(8, transomlaw10_Few.ct g8), (49, transomlaw05_Few.ct g49)] 0 [] []
def c (a0 : D_api_Op) (ret : Int → Option β) : Option β := (bif (decide (((ByteArray.size a0.2.1) : Int) > (500 : Int))) then (ret ((0 : Int))) else ((g49 a0.2.2.1).bind fun r0 => (bif (r0 == (0 : Int)) then (ret ((0 : Int))) else ((g49 a0.2.2.2.1).bind fun r1 => (bif (r1 == (0 : Int)) then (ret ((0 : Int))) else ((g49 a0.2.2.2.2.1).bind fun r2 => (bif (r2 == (0 : Int)) then (ret ((0 : Int))) else ((g8 a0.2.2.2.2.2.2.1).bind fun r3 => (bif (r3 == (0 : Int)) then (ret ((0 : Int))) else (ret ((1 : Int))))))))))))
variable {g8} {g49}
theorem ev : EvA (env g8 g49) [] [0] e ⟨[.s T_api_Op], [], fun x y => c g8 g49 x.1.1 some⟩ := fun x y => Eq.trans (b := c g8 g49 x.1.1 fun r => some (e r)) (by kernel_rfl) (by simp only [c, bif_bind, sum_bind, oa, os, on, ofs])
end
def f (k : Nat) (a0 : D_api_Op) : Option Int := c (transomlaw10_Few.f k) (transomlaw05_Few.f k) a0 some
noncomputable abbrev E (k : Nat) : FEnv := env (transomlaw10_Few.f k) (transomlaw05_Few.f k) 
theorem hE (k : Nat) : EnvOK (E k).toEnv := ctsOK (L.cons (transomlaw10_Few.ok k) (L.cons (transomlaw05_Few.ok k) L.nil))
theorem ok (k : Nat) : CtOK prog 15 (ct (f k)) := fn_ok func15 rfl (by decide) (hE k) L.nil (L.cons ev L.nil)
end transomlaw13_FewOp
namespace transomref03_Int
def e (r : ByteArray) : Res := ⟨.v (.one (.d .str r)), []⟩
abbrev G : Type := Int → Option ByteArray
def ct (g : G) : Ct := mkCt 0 [] [⟨[.d (.int .i64)], [], fun x y => g x.1⟩] e
section
variable {β : Type} (g37 : transomref03_Uint.G)
noncomputable abbrev env : FEnv := mkEnv prog f106 [(37, transomref03_Uint.ct g37)] 0 [] []
def c (a0 : Int) (ret : ByteArray → Option β) : Option β := (bif (decide (a0 < (0 : Int))) then ((g37 (IntKind.wrap IntKind.u64 ((IntKind.wrap IntKind.u64 ((2 : Int) * (IntKind.wrap IntKind.u64 (IntKind.wrap IntKind.i64 ((0 : Int) - (IntKind.wrap IntKind.i64 (a0 + (1 : Int)))))))) + (1 : Int)))).bind fun r0 => (ret (r0))) else ((g37 (IntKind.wrap IntKind.u64 ((2 : Int) * (IntKind.wrap IntKind.u64 a0)))).bind fun r1 => (ret (r1))))
variable {g37}
theorem ev : EvA (env g37) [] [0] e ⟨[.d (.int .i64)], [], fun x y => c g37 x.1 some⟩ := fun x y => Eq.trans (b := c g37 x.1 fun r => some (e r)) (by kernel_rfl) (by simp only [c, bif_bind, sum_bind, oa, os, on, ofs])
end
def f (k : Nat) (a0 : Int) : Option ByteArray := c (transomref03_Uint.f k) a0 some
noncomputable abbrev E (k : Nat) : FEnv := env (transomref03_Uint.f k) 
theorem hE (k : Nat) : EnvOK (E k).toEnv := ctsOK (L.cons (transomref03_Uint.ok k) L.nil)
theorem ok (k : Nat) : CtOK prog 106 (ct (f k)) := fn_ok func106 rfl (by decide) (hE k) L.nil (L.cons ev L.nil)
end transomref03_Int
namespace transomref06_one
def e (r : ByteArray) : Res := ⟨.v (.one (.d .str r)), []⟩
abbrev G : Type := Int → Int → Int → ByteArray → Option ByteArray
def ct (g : G) : Ct := mkCt 0 [] [⟨[.s T_api_Value], [], fun x y => g x.1.1.1 x.1.1.2.1 x.1.1.2.2.1 x.1.1.2.2.2.1⟩] e
section
variable {β : Type} (g38 : transomref03_Text.G) (g91 : transomref05_Eight.G) (g106 : transomref03_Int.G)
noncomputable abbrev env : FEnv := mkEnv prog f77 [(38, transomref03_Text.ct g38), (91, transomref05_Eight.ct g91), (106, transomref03_Int.ct g106)] 0 [] []
def c (a0 : Int) (a1 : Int) (a2 : Int) (a3 : ByteArray) (ret : ByteArray → Option β) : Option β := (bif (a0 == (1 : Int)) then (ret (((ByteArray.mk (List.toArray (List.map (fun n => (UInt8.ofNat (Int.toNat n))) [(IntKind.wrap IntKind.u8 a0)]))) ++ (ByteArray.mk (List.toArray (List.map (fun n => (UInt8.ofNat (Int.toNat n))) [(IntKind.wrap IntKind.u8 a1)])))))) else (bif (a0 == (2 : Int)) then ((g106 a1).bind fun r0 => (bif (true && (decide ((ByteArray.size r0) ≤ (4611686018427387903 : Nat)))) then (ret (((ByteArray.mk (List.toArray (List.map (fun n => (UInt8.ofNat (Int.toNat n))) [(IntKind.wrap IntKind.u8 a0)]))) ++ r0))) else none)) else (bif (a0 == (3 : Int)) then ((g91 a2).bind fun r1 => (bif (true && (decide ((ByteArray.size r1) ≤ (4611686018427387903 : Nat)))) then (ret (((ByteArray.mk (List.toArray (List.map (fun n => (UInt8.ofNat (Int.toNat n))) [(IntKind.wrap IntKind.u8 a0)]))) ++ r1))) else none)) else (bif (a0 == (4 : Int)) then (bif (a0 == (4 : Int)) then ((g38 a3).bind fun r2 => (bif (true && (decide ((ByteArray.size r2) ≤ (4611686018427387903 : Nat)))) then (ret (((ByteArray.mk (List.toArray (List.map (fun n => (UInt8.ofNat (Int.toNat n))) [(IntKind.wrap IntKind.u8 a0)]))) ++ r2))) else none)) else (ret ((ByteArray.mk (List.toArray (List.map (fun n => (UInt8.ofNat (Int.toNat n))) [(IntKind.wrap IntKind.u8 a0)])))))) else (bif (a0 == (5 : Int)) then ((g38 a3).bind fun r3 => (bif (true && (decide ((ByteArray.size r3) ≤ (4611686018427387903 : Nat)))) then (ret (((ByteArray.mk (List.toArray (List.map (fun n => (UInt8.ofNat (Int.toNat n))) [(IntKind.wrap IntKind.u8 a0)]))) ++ r3))) else none)) else (ret ((ByteArray.mk (List.toArray (List.map (fun n => (UInt8.ofNat (Int.toNat n))) [(IntKind.wrap IntKind.u8 a0)]))))))))))
variable {g38} {g91} {g106}
theorem ev : EvA (env g38 g91 g106) [] [0] e ⟨[.s T_api_Value], [], fun x y => c g38 g91 g106 x.1.1.1 x.1.1.2.1 x.1.1.2.2.1 x.1.1.2.2.2.1 some⟩ := fun x y => Eq.trans (b := c g38 g91 g106 x.1.1.1 x.1.1.2.1 x.1.1.2.2.1 x.1.1.2.2.2.1 fun r => some (e r)) (by kernel_rfl) (by simp only [c, bif_bind, sum_bind, oa, os, on, ofs])
end
def f (k : Nat) (a0 : Int) (a1 : Int) (a2 : Int) (a3 : ByteArray) : Option ByteArray := c (transomref03_Text.f k) (transomref05_Eight.f k) (transomref03_Int.f k) a0 a1 a2 a3 some
noncomputable abbrev E (k : Nat) : FEnv := env (transomref03_Text.f k) (transomref05_Eight.f k) (transomref03_Int.f k) 
theorem hE (k : Nat) : EnvOK (E k).toEnv := ctsOK (L.cons (transomref03_Text.ok k) (L.cons (transomref05_Eight.ok k) (L.cons (transomref03_Int.ok k) L.nil)))
theorem ok (k : Nat) : CtOK prog 77 (ct (f k)) := fn_ok func77 rfl (by decide) (hE k) L.nil (L.cons ev L.nil)
end transomref06_one
namespace transomref06_Put
def e (r : ByteArray × Int) : Res := ⟨.tup [(.one (.d .str r.1)), (.one (.d (.int .i64) r.2))], []⟩
abbrev G : Type := (List D_api_Value) → Option (ByteArray × Int)
def ct (g : G) : Ct := mkCt 0 [] [⟨[.d (.sl T_api_Value)], [], fun x y => g x.1⟩] e
abbrev S0 : Type := (List D_api_Value) → ByteArray → Int → Option (ByteArray × Int)
def sg0 (s : S0) : Seg := mkSg [4, 1, 0, 1, 1, 1] [] [0, 4, 5] [⟨[.d (.sl T_api_Value), .d .str, .d (.int .i64)], [], fun x y => s x.1 x.2.1 x.2.2.1⟩] e
section
variable {β : Type} (g37 : transomref03_Uint.G) (g76 : transomref04_Check.G) (g77 : transomref06_one.G) (s0 : S0)
noncomputable abbrev env : FEnv := mkEnv prog f53 [(37, transomref03_Uint.ct g37), (76, transomref04_Check.ct g76), (77, transomref06_one.ct g77)] 0 [] [sg0 s0]
def c (a0 : List D_api_Value) (ret : (ByteArray × Int) → Option β) : Option β := (bif (decide (((List.length a0) : Int) > (8 : Int))) then (ret ((ByteArray.mk (List.toArray [])), (2 : Int))) else ((g37 (IntKind.wrap IntKind.u64 ((List.length a0) : Int))).bind fun r0 => ((s0 a0 r0 (0 : Int)).bind ret)))
def s0c (x0 : List D_api_Value) (x1 : ByteArray) (x2 : Int) (ret : (ByteArray × Int) → Option β) : Option β := (bif (decide (x2 < ((List.length x0) : Int))) then (bif ((decide ((0 : Int) ≤ x2)) && (decide (x2 < ((List.length x0) : Int)))) then ((g76 (elem T_api_Value x0 x2).1 (elem T_api_Value x0 x2).2.1 (elem T_api_Value x0 x2).2.2.1 (elem T_api_Value x0 x2).2.2.2.1).bind fun r0 => (bif (r0 != (0 : Int)) then (ret ((ByteArray.mk (List.toArray [])), r0)) else (bif ((decide ((0 : Int) ≤ x2)) && (decide (x2 < ((List.length x0) : Int)))) then ((g77 (elem T_api_Value x0 x2).1 (elem T_api_Value x0 x2).2.1 (elem T_api_Value x0 x2).2.2.1 (elem T_api_Value x0 x2).2.2.2.1).bind fun r1 => (bif ((decide ((ByteArray.size x1) ≤ (4611686018427387903 : Nat))) && (decide ((ByteArray.size r1) ≤ (4611686018427387903 : Nat)))) then ((s0 x0 (x1 ++ r1) (IntKind.wrap IntKind.i64 (x2 + (1 : Int)))).bind ret) else none)) else none))) else none) else (ret (x1, (0 : Int))))
variable {g37} {g76} {g77} {s0}
theorem ev : EvA (env g37 g76 g77 s0) [] [0] e ⟨[.d (.sl T_api_Value)], [], fun x y => c g37 s0 x.1 some⟩ := fun x y => Eq.trans (b := c g37 s0 x.1 fun r => some (e r)) (by kernel_rfl) (by simp only [c, bif_bind, sum_bind, oa, os, on, ofs])
theorem s0_ev : EvA (env g37 g76 g77 s0) [4, 1, 0, 1, 1, 1] [0, 4, 5] e ⟨[.d (.sl T_api_Value), .d .str, .d (.int .i64)], [], fun x y => s0c g76 g77 s0 x.1 x.2.1 x.2.2.1 some⟩ := fun x y => Eq.trans (b := s0c g76 g77 s0 x.1 x.2.1 x.2.2.1 fun r => some (e r)) (by kernel_rfl) (by simp only [s0c, bif_bind, sum_bind, oa, os, on, ofs])
end
def s0 : Nat → (List D_api_Value) → ByteArray → Int → Option (ByteArray × Int)
  | 0, _, _, _ => none
  | k + 1, x0, x1, x2 => s0c (transomref04_Check.f k) (transomref06_one.f k) (s0 k) x0 x1 x2 some
def f (k : Nat) (a0 : List D_api_Value) : Option (ByteArray × Int) := c (transomref03_Uint.f k) (s0 k) a0 some
noncomputable abbrev E (k : Nat) : FEnv := env (transomref03_Uint.f k) (transomref04_Check.f k) (transomref06_one.f k) (s0 k)
theorem hE (k : Nat) : EnvOK (E k).toEnv := ctsOK (L.cons (transomref03_Uint.ok k) (L.cons (transomref04_Check.ok k) (L.cons (transomref06_one.ok k) L.nil)))
theorem segs_ok : ∀ k, ∀ s ∈ [sg0 (s0 k)], SegB prog f53 0 s
  | 0 => (L.cons (sg_none (L.cons (fun _ _ => rfl) L.nil)) L.nil)
  | k + 1 => (L.cons (sg_ok (hE k) (segs_ok k) (L.cons s0_ev L.nil)) L.nil)
theorem ok (k : Nat) : CtOK prog 53 (ct (f k)) := fn_ok func53 rfl (by decide) (hE k) (segs_ok k) (L.cons ev L.nil)
end transomref06_Put
namespace transomref14_Put
def e (r : ByteArray × Int) : Res := ⟨.tup [(.one (.d .str r.1)), (.one (.d (.int .i64) r.2))], []⟩
abbrev G : Type := D_api_Op → Option (ByteArray × Int)
def ct (g : G) : Ct := mkCt 0 [] [⟨[.s T_api_Op], [], fun x y => g x.1.1⟩] e
abbrev S0 : Type := Bool → D_api_Op → Option (ByteArray × Int)
abbrev S1 : Type := D_api_Op → Option (ByteArray × Int)
abbrev S2 : Type := ByteArray → Int → D_api_Op → (List (List D_api_Value)) → Option (ByteArray × Int)
def sg0 (s : S0) : Seg := mkSg [1, 0, 1] [] [1, 28] [⟨[.k (.ptr 0 0), .d .bool], [.box [.g T_api_Op]], fun x y => s x.2.1 y.1.1⟩] e
def sg1 (s : S1) : Seg := mkSg [1, 1] [] [1] [⟨[.k (.ptr 0 0)], [.box [.g T_api_Op]], fun x y => s y.1.1⟩] e
def sg2 (s : S2) : Seg := mkSg [4, 1, 0, 1, 1, 1, 1, 1] [] [1, 4, 5, 6] [⟨[.k (.ptr 0 0), .d .str, .k (.own 1), .d (.int .i64)], [.box [.g T_api_Op], .own (.sl T_api_Value) true], fun x y => s x.2.1 x.2.2.2.1 y.1.1 y.2.1⟩] e
section
variable {β : Type} (g11 : transomref14_PutChange.G) (g37 : transomref03_Uint.G) (g38 : transomref03_Text.G) (g53 : transomref06_Put.G) (s0 : S0) (s1 : S1) (s2 : S2)
noncomputable abbrev env : FEnv := mkEnv prog f17 [(11, transomref14_PutChange.ct g11), (37, transomref03_Uint.ct g37), (38, transomref03_Text.ct g38), (53, transomref06_Put.ct g53)] 0 [] [sg0 s0, sg1 s1, sg2 s2]
def c (a0 : D_api_Op) (ret : (ByteArray × Int) → Option β) : Option β := (bif (decide (a0.1 < (1 : Int))) then ((s0 true a0).bind ret) else (bif (decide (a0.1 > (9 : Int))) then ((s0 true a0).bind ret) else (bif (decide (a0.2.2.2.2.2.1 < (0 : Int))) then ((s0 true a0).bind ret) else ((s0 (decide (a0.2.2.2.2.2.1 > (64 : Int))) a0).bind ret))))
def s0c (x0 : Bool) (x1 : D_api_Op) (ret : (ByteArray × Int) → Option β) : Option β := (bif x0 then (ret ((ByteArray.mk (List.toArray [])), (1 : Int))) else ((s1 x1).bind ret))
def s1c (x0 : D_api_Op) (ret : (ByteArray × Int) → Option β) : Option β := (bif (decide (((ByteArray.size x0.2.1) : Int) > (16 : Int))) then (ret ((ByteArray.mk (List.toArray [])), (8 : Int))) else ((g37 (IntKind.wrap IntKind.u64 x0.1)).bind fun r0 => ((g38 x0.2.1).bind fun r1 => (bif ((decide ((ByteArray.size r0) ≤ (4611686018427387903 : Nat))) && (decide ((ByteArray.size r1) ≤ (4611686018427387903 : Nat)))) then ((s2 (r0 ++ r1) (0 : Int) x0 [x0.2.2.1, x0.2.2.2.1, x0.2.2.2.2.1]).bind ret) else none))))
def s2c (x0 : ByteArray) (x1 : Int) (x2 : D_api_Op) (x3 : List (List D_api_Value)) (ret : (ByteArray × Int) → Option β) : Option β := (bif (decide (x1 < ((List.length x3) : Int))) then (bif ((decide ((0 : Int) ≤ x1)) && (decide (x1 < ((List.length x3) : Int)))) then ((g53 (elem (Ty.sl T_api_Value) x3 x1)).bind fun r0 => (bif (r0.2 != (0 : Int)) then (ret ((ByteArray.mk (List.toArray [])), r0.2)) else ((g38 r0.1).bind fun r1 => (bif ((decide ((ByteArray.size x0) ≤ (4611686018427387903 : Nat))) && (decide ((ByteArray.size r1) ≤ (4611686018427387903 : Nat)))) then ((s2 (x0 ++ r1) (IntKind.wrap IntKind.i64 (x1 + (1 : Int))) x2 x3).bind ret) else none)))) else none) else ((g37 (IntKind.wrap IntKind.u64 x2.2.2.2.2.2.1)).bind fun r2 => (bif ((decide ((ByteArray.size x0) ≤ (4611686018427387903 : Nat))) && (decide ((ByteArray.size r2) ≤ (4611686018427387903 : Nat)))) then (bif (x2.1 != (6 : Int)) then (ret ((x0 ++ r2), (0 : Int))) else ((g11 x2.2.2.2.2.2.2.1).bind fun r3 => (bif (r3.2 != (0 : Int)) then (ret ((ByteArray.mk (List.toArray [])), r3.2)) else (bif ((decide ((ByteArray.size (x0 ++ r2)) ≤ (4611686018427387903 : Nat))) && (decide ((ByteArray.size r3.1) ≤ (4611686018427387903 : Nat)))) then (ret (((x0 ++ r2) ++ r3.1), (0 : Int))) else none)))) else none)))
variable {g11} {g37} {g38} {g53} {s0} {s1} {s2}
theorem ev : EvA (env g11 g37 g38 g53 s0 s1 s2) [] [0] e ⟨[.s T_api_Op], [], fun x y => c s0 x.1.1 some⟩ := fun x y => Eq.trans (b := c s0 x.1.1 fun r => some (e r)) (by kernel_rfl) (by simp only [c, bif_bind, sum_bind, oa, os, on, ofs])
theorem s0_ev : EvA (env g11 g37 g38 g53 s0 s1 s2) [1, 0, 1] [1, 28] e ⟨[.k (.ptr 0 0), .d .bool], [.box [.g T_api_Op]], fun x y => s0c s1 x.2.1 y.1.1 some⟩ := fun x y => Eq.trans (b := s0c s1 x.2.1 y.1.1 fun r => some (e r)) (by kernel_rfl) (by simp only [s0c, bif_bind, sum_bind, oa, os, on, ofs])
theorem s1_ev : EvA (env g11 g37 g38 g53 s0 s1 s2) [1, 1] [1] e ⟨[.k (.ptr 0 0)], [.box [.g T_api_Op]], fun x y => s1c g37 g38 s2 y.1.1 some⟩ := fun x y => Eq.trans (b := s1c g37 g38 s2 y.1.1 fun r => some (e r)) (by kernel_rfl) (by simp only [s1c, bif_bind, sum_bind, oa, os, on, ofs])
theorem s2_ev : EvA (env g11 g37 g38 g53 s0 s1 s2) [4, 1, 0, 1, 1, 1, 1, 1] [1, 4, 5, 6] e ⟨[.k (.ptr 0 0), .d .str, .k (.own 1), .d (.int .i64)], [.box [.g T_api_Op], .own (.sl T_api_Value) true], fun x y => s2c g11 g37 g38 g53 s2 x.2.1 x.2.2.2.1 y.1.1 y.2.1 some⟩ := fun x y => Eq.trans (b := s2c g11 g37 g38 g53 s2 x.2.1 x.2.2.2.1 y.1.1 y.2.1 fun r => some (e r)) (by kernel_rfl) (by simp only [s2c, bif_bind, sum_bind, oa, os, on, ofs])
end
mutual
def s0 : Nat → Bool → D_api_Op → Option (ByteArray × Int)
  | 0, _, _ => none
  | k + 1, x0, x1 => s0c (s1 k) x0 x1 some
def s1 : Nat → D_api_Op → Option (ByteArray × Int)
  | 0, _ => none
  | k + 1, x0 => s1c (transomref03_Uint.f k) (transomref03_Text.f k) (s2 k) x0 some
def s2 : Nat → ByteArray → Int → D_api_Op → (List (List D_api_Value)) → Option (ByteArray × Int)
  | 0, _, _, _, _ => none
  | k + 1, x0, x1, x2, x3 => s2c (transomref14_PutChange.f k) (transomref03_Uint.f k) (transomref03_Text.f k) (transomref06_Put.f k) (s2 k) x0 x1 x2 x3 some
end
def f (k : Nat) (a0 : D_api_Op) : Option (ByteArray × Int) := c (s0 k) a0 some
noncomputable abbrev E (k : Nat) : FEnv := env (transomref14_PutChange.f k) (transomref03_Uint.f k) (transomref03_Text.f k) (transomref06_Put.f k) (s0 k) (s1 k) (s2 k)
theorem hE (k : Nat) : EnvOK (E k).toEnv := ctsOK (L.cons (transomref14_PutChange.ok k) (L.cons (transomref03_Uint.ok k) (L.cons (transomref03_Text.ok k) (L.cons (transomref06_Put.ok k) L.nil))))
theorem segs_ok : ∀ k, ∀ s ∈ [sg0 (s0 k), sg1 (s1 k), sg2 (s2 k)], SegB prog f17 0 s
  | 0 => (L.cons (sg_none (L.cons (fun _ _ => rfl) L.nil)) (L.cons (sg_none (L.cons (fun _ _ => rfl) L.nil)) (L.cons (sg_none (L.cons (fun _ _ => rfl) L.nil)) L.nil)))
  | k + 1 => (L.cons (sg_ok (hE k) (segs_ok k) (L.cons s0_ev L.nil)) (L.cons (sg_ok (hE k) (segs_ok k) (L.cons s1_ev L.nil)) (L.cons (sg_ok (hE k) (segs_ok k) (L.cons s2_ev L.nil)) L.nil)))
theorem ok (k : Nat) : CtOK prog 17 (ct (f k)) := fn_ok func17 rfl (by decide) (hE k) (segs_ok k) (L.cons ev L.nil)
end transomref14_Put
end Go.Proofs.YtaehpfmnejeddaaGreatDoor.Aev
