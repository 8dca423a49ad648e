import Derived.Test.YtijjlpgcpdapnaaGreatDoorTys
import Derived.Test.YtijjlpgcpdapnaaGreatDoorProg
import Derived.Laws.Externs
import Derived.Lib.Bytealg
import Derived.Test.YtijjlpgcpdapnaaGreatDoorF0
import Derived.Test.YtijjlpgcpdapnaaGreatDoorF2
import Derived.Test.YtijjlpgcpdapnaaGreatDoorAevY
import Derived.Test.YtijjlpgcpdapnaaGreatDoorDel
/- By a program of this session (AEV): functions of the program as plain functions, and that the machine does what they say. -/
namespace Go.Proofs.YtijjlpgcpdapnaaGreatDoor.Aev
set_option linter.unusedVariables false
set_option linter.unusedSimpArgs false
set_option maxRecDepth 100000
set_option maxHeartbeats 4000000
open Go Go.Proofs.Tryz
namespace change_create_sources
def e (r : (List ByteArray)) : Res := ⟨.v (.one (.d (.sl .str) r)), []⟩
abbrev T (δ : Type) : Type := D_api_Change → Option δ
abbrev A {δ : Type} (g : T δ) : Arm δ := ⟨[.s T_api_Change], [], fun x y => g x.1.1⟩
abbrev G : Type := T (List ByteArray)
def ct (g : G) : Ct := mkCt 0 [] [A g] e
section
variable {β : Type} 
noncomputable abbrev env : FEnv := mkEnv prog f151 [] 0 [] []
def c (ret : (List ByteArray) → Option β) (a0 : D_api_Change) : Option β := (ret ([]))
theorem ev : EvA (env) [] [0] e (A (c some)) := fun x y => Eq.trans (b := (A (c fun r => some (e r))).G x y) (by kernel_rfl) (by simp only [A, c, bo, so, oa, os, on, ofs])
end
def f (k : Nat) (a0 : D_api_Change) : Option (List ByteArray) := c  some a0
noncomputable abbrev E (k : Nat) : FEnv := env  
theorem hE (k : Nat) : EnvOK (E k).toEnv := ctsOK L0
theorem ok (k : Nat) : CtOK prog 151 (ct (f k)) := fn_ok func151 rfl (by decide) (hE k) L0 (Lc ev L0)
end change_create_sources
namespace change_add_sources
def e (r : (List ByteArray)) : Res := ⟨.v (.one (.d (.sl .str) r)), []⟩
abbrev T (δ : Type) : Type := D_api_Change → Option δ
abbrev A {δ : Type} (g : T δ) : Arm δ := ⟨[.s T_api_Change], [], fun x y => g x.1.1⟩
abbrev G : Type := T (List ByteArray)
def ct (g : G) : Ct := mkCt 0 [] [A g] e
section
variable {β : Type} 
noncomputable abbrev env : FEnv := mkEnv prog f154 [] 0 [] []
def c (ret : (List ByteArray) → Option β) (a0 : D_api_Change) : Option β := (ret ([a0.2.1]))
theorem ev : EvA (env) [] [0] e (A (c some)) := fun x y => Eq.trans (b := (A (c fun r => some (e r))).G x y) (by kernel_rfl) (by simp only [A, c, bo, so, oa, os, on, ofs])
end
def f (k : Nat) (a0 : D_api_Change) : Option (List ByteArray) := c  some a0
noncomputable abbrev E (k : Nat) : FEnv := env  
theorem hE (k : Nat) : EnvOK (E k).toEnv := ctsOK L0
theorem ok (k : Nat) : CtOK prog 154 (ct (f k)) := fn_ok func154 rfl (by decide) (hE k) L0 (Lc ev L0)
end change_add_sources
namespace change_drop_sources
def e (r : (List ByteArray)) : Res := ⟨.v (.one (.d (.sl .str) r)), []⟩
abbrev T (δ : Type) : Type := D_api_Change → Option δ
abbrev A {δ : Type} (g : T δ) : Arm δ := ⟨[.s T_api_Change], [], fun x y => g x.1.1⟩
abbrev G : Type := T (List ByteArray)
def ct (g : G) : Ct := mkCt 0 [] [A g] e
section
variable {β : Type} 
noncomputable abbrev env : FEnv := mkEnv prog f157 [] 0 [] []
def c (ret : (List ByteArray) → Option β) (a0 : D_api_Change) : Option β := (ret ([a0.2.1]))
theorem ev : EvA (env) [] [0] e (A (c some)) := fun x y => Eq.trans (b := (A (c fun r => some (e r))).G x y) (by kernel_rfl) (by simp only [A, c, bo, so, oa, os, on, ofs])
end
def f (k : Nat) (a0 : D_api_Change) : Option (List ByteArray) := c  some a0
noncomputable abbrev E (k : Nat) : FEnv := env  
theorem hE (k : Nat) : EnvOK (E k).toEnv := ctsOK L0
theorem ok (k : Nat) : CtOK prog 157 (ct (f k)) := fn_ok func157 rfl (by decide) (hE k) L0 (Lc ev L0)
end change_drop_sources
namespace change_retype_sources
def e (r : (List ByteArray)) : Res := ⟨.v (.one (.d (.sl .str) r)), []⟩
abbrev T (δ : Type) : Type := D_api_Change → Option δ
abbrev A {δ : Type} (g : T δ) : Arm δ := ⟨[.s T_api_Change], [], fun x y => g x.1.1⟩
abbrev G : Type := T (List ByteArray)
def ct (g : G) : Ct := mkCt 0 [] [A g] e
section
variable {β : Type} 
noncomputable abbrev env : FEnv := mkEnv prog f160 [] 0 [] []
def c (ret : (List ByteArray) → Option β) (a0 : D_api_Change) : Option β := (ret ([a0.2.1]))
theorem ev : EvA (env) [] [0] e (A (c some)) := fun x y => Eq.trans (b := (A (c fun r => some (e r))).G x y) (by kernel_rfl) (by simp only [A, c, bo, so, oa, os, on, ofs])
end
def f (k : Nat) (a0 : D_api_Change) : Option (List ByteArray) := c  some a0
noncomputable abbrev E (k : Nat) : FEnv := env  
theorem hE (k : Nat) : EnvOK (E k).toEnv := ctsOK L0
theorem ok (k : Nat) : CtOK prog 160 (ct (f k)) := fn_ok func160 rfl (by decide) (hE k) L0 (Lc ev L0)
end change_retype_sources
namespace change_split_sources
def e (r : (List ByteArray)) : Res := ⟨.v (.one (.d (.sl .str) r)), []⟩
abbrev T (δ : Type) : Type := D_api_Change → Option δ
abbrev A {δ : Type} (g : T δ) : Arm δ := ⟨[.s T_api_Change], [], fun x y => g x.1.1⟩
abbrev G : Type := T (List ByteArray)
def ct (g : G) : Ct := mkCt 0 [] [A g] e
section
variable {β : Type} 
noncomputable abbrev env : FEnv := mkEnv prog f162 [] 0 [] []
def c (ret : (List ByteArray) → Option β) (a0 : D_api_Change) : Option β := (ret ([a0.2.1]))
theorem ev : EvA (env) [] [0] e (A (c some)) := fun x y => Eq.trans (b := (A (c fun r => some (e r))).G x y) (by kernel_rfl) (by simp only [A, c, bo, so, oa, os, on, ofs])
end
def f (k : Nat) (a0 : D_api_Change) : Option (List ByteArray) := c  some a0
noncomputable abbrev E (k : Nat) : FEnv := env  
theorem hE (k : Nat) : EnvOK (E k).toEnv := ctsOK L0
theorem ok (k : Nat) : CtOK prog 162 (ct (f k)) := fn_ok func162 rfl (by decide) (hE k) L0 (Lc ev L0)
end change_split_sources
namespace change_merge_sources
def e (r : (List ByteArray)) : Res := ⟨.v (.one (.d (.sl .str) r)), []⟩
abbrev T (δ : Type) : Type := D_api_Change → Option δ
abbrev A {δ : Type} (g : T δ) : Arm δ := ⟨[.s T_api_Change], [], fun x y => g x.1.1⟩
abbrev G : Type := T (List ByteArray)
def ct (g : G) : Ct := mkCt 0 [] [A g] e
section
variable {β : Type} 
noncomputable abbrev env : FEnv := mkEnv prog f165 [] 0 [] []
def c (ret : (List ByteArray) → Option β) (a0 : D_api_Change) : Option β := (ret ([a0.2.1, a0.2.2.1]))
theorem ev : EvA (env) [] [0] e (A (c some)) := fun x y => Eq.trans (b := (A (c fun r => some (e r))).G x y) (by kernel_rfl) (by simp only [A, c, bo, so, oa, os, on, ofs])
end
def f (k : Nat) (a0 : D_api_Change) : Option (List ByteArray) := c  some a0
noncomputable abbrev E (k : Nat) : FEnv := env  
theorem hE (k : Nat) : EnvOK (E k).toEnv := ctsOK L0
theorem ok (k : Nat) : CtOK prog 165 (ct (f k)) := fn_ok func165 rfl (by decide) (hE k) L0 (Lc ev L0)
end change_merge_sources
namespace change_Sources
def e (r : (List ByteArray)) : Res := ⟨.v (.one (.d (.sl .str) r)), []⟩
abbrev T (δ : Type) : Type := D_api_Change → Option δ
abbrev A {δ : Type} (g : T δ) : Arm δ := ⟨[.s T_api_Change], [], fun x y => g x.1.1⟩
abbrev G : Type := T (List ByteArray)
def ct (g : G) : Ct := mkCt 0 [] [A g] e
section
variable {β : Type} (g39 : change_of.G) (g151 : change_create_sources.G) (g154 : change_add_sources.G) (g157 : change_drop_sources.G) (g160 : change_retype_sources.G) (g162 : change_split_sources.G) (g165 : change_merge_sources.G)
noncomputable abbrev env : FEnv := mkEnv prog f26 [(39, change_of.ct g39), (151, change_create_sources.ct g151), (154, change_add_sources.ct g154), (157, change_drop_sources.ct g157), (160, change_retype_sources.ct g160), (162, change_split_sources.ct g162), (165, change_merge_sources.ct g165)] 0 [] []
def c (ret : (List ByteArray) → Option β) (a0 : D_api_Change) : Option β := ((g39 a0).bind fun r0 => (Sum.elim (fun r1 => ((g151 r1).bind fun r2 => (ret (r2)))) (fun r3 => (Sum.elim (fun r4 => ((g154 r4).bind fun r5 => (ret (r5)))) (fun r6 => (Sum.elim (fun r7 => ((g157 r7).bind fun r8 => (ret (r8)))) (fun r9 => (Sum.elim (fun r10 => ((g160 r10).bind fun r11 => (ret (r11)))) (fun r12 => (Sum.elim (fun r13 => ((g162 r13).bind fun r14 => (ret (r14)))) (fun r15 => (Sum.elim (fun r16 => ((g165 r16).bind fun r17 => (ret (r17)))) (fun r18 => (ret ([]))) r15)) r12)) r9)) r6)) r3)) r0))
variable {g39} {g151} {g154} {g157} {g160} {g162} {g165}
theorem ev : EvA (env g39 g151 g154 g157 g160 g162 g165) [] [0] e (A (c g39 g151 g154 g157 g160 g162 g165 some)) := fun x y => Eq.trans (b := (A (c g39 g151 g154 g157 g160 g162 g165 fun r => some (e r))).G x y) (by kernel_rfl) (by simp only [A, c, bo, so, oa, os, on, ofs])
end
def f (k : Nat) (a0 : D_api_Change) : Option (List ByteArray) := c (change_of.f k) (change_create_sources.f k) (change_add_sources.f k) (change_drop_sources.f k) (change_retype_sources.f k) (change_split_sources.f k) (change_merge_sources.f k) some a0
noncomputable abbrev E (k : Nat) : FEnv := env (change_of.f k) (change_create_sources.f k) (change_add_sources.f k) (change_drop_sources.f k) (change_retype_sources.f k) (change_split_sources.f k) (change_merge_sources.f k) 
theorem hE (k : Nat) : EnvOK (E k).toEnv := ctsOK (Lc (change_of.ok k) (Lc (change_create_sources.ok k) (Lc (change_add_sources.ok k) (Lc (change_drop_sources.ok k) (Lc (change_retype_sources.ok k) (Lc (change_split_sources.ok k) (Lc (change_merge_sources.ok k) L0)))))))
theorem ok (k : Nat) : CtOK prog 26 (ct (f k)) := fn_ok func26 rfl (by decide) (hE k) L0 (Lc ev L0)
end change_Sources
namespace transform_copied
def e (r : (List D_api_Value)) : Res := ⟨.v (.one (.own 0)), [some (.own T_api_Value true r)]⟩
abbrev T (δ : Type) : Type := (List D_api_Value) → Option δ
abbrev A {δ : Type} (g : T δ) : Arm δ := ⟨[.d (.sl T_api_Value)], [], fun x y => g x.1⟩
abbrev G : Type := T (List D_api_Value)
def ct (g : G) : Ct := mkCt 0 [] [A g] e
section
variable {β : Type} 
noncomputable abbrev env : FEnv := mkEnv prog f27 [] 0 [0] []
def c (ret : (List D_api_Value) → Option β) (a0 : List D_api_Value) : Option β := (bif ((true && (decide ((a0.length : Int) ≤ (IntKind.wrap .i64 ((a0.length : Int) + (1 : Int)))))) && (decide (((IntKind.wrap .i64 ((a0.length : Int) + (1 : Int))) * (40 : Int)) ≤ (35184372088832 : Int)))) then (ret (((List.take (List.length (List.replicate (Int.toNat (a0.length : Int)) ((0 : Int), ((0 : Int), ((0 : Int), ((ByteArray.mk (List.toArray [])), ())))))) a0) ++ (List.drop a0.length (List.replicate (Int.toNat (a0.length : Int)) ((0 : Int), ((0 : Int), ((0 : Int), ((ByteArray.mk (List.toArray [])), ()))))))))) else none)
theorem ev : EvA (env) [] [0] e (A (c some)) := fun x y => Eq.trans (b := (A (c fun r => some (e r))).G x y) (by kernel_rfl) (by simp only [A, c, bo, so, oa, os, on, ofs])
end
def f (k : Nat) (a0 : List D_api_Value) : Option (List D_api_Value) := c  some a0
noncomputable abbrev E (k : Nat) : FEnv := env  
theorem hE (k : Nat) : EnvOK (E k).toEnv := ctsOK L0
theorem ok (k : Nat) : CtOK prog 27 (ct (f k)) := fn_ok func27 rfl (by decide) (hE k) L0 (Lc ev L0)
end transform_copied
namespace names_Find
def e (r : Int) : Res := ⟨.v (.one (.d (.int .i64) r)), []⟩
abbrev T (δ : Type) : Type := (List ByteArray) → ByteArray → Option δ
abbrev A {δ : Type} (g : T δ) : Arm δ := ⟨[.d (.sl .str), .d .str], [], fun x y => g x.1 x.2.1⟩
abbrev G : Type := T Int
def ct (g : G) : Ct := mkCt 0 [] [A g] e
section
variable {β : Type} (g48 : sIx.G)
noncomputable abbrev env : FEnv := mkEnv prog f49 [(48, sIx.ct g48)] 0 [] []
def c (ret : Int → Option β) (a0 : List ByteArray) (a1 : ByteArray) : Option β := ((g48 a0 a1).bind fun r0 => (ret (r0)))
variable {g48}
theorem ev : EvA (env g48) [] [0, 1] e (A (c g48 some)) := fun x y => Eq.trans (b := (A (c g48 fun r => some (e r))).G x y) (by kernel_rfl) (by simp only [A, c, bo, so, oa, os, on, ofs])
end
def f (k : Nat) (a0 : List ByteArray) (a1 : ByteArray) : Option Int := c (sIx.f k) some a0 a1
noncomputable abbrev E (k : Nat) : FEnv := env (sIx.f k) 
theorem hE (k : Nat) : EnvOK (E k).toEnv := ctsOK (Lc (sIx.ok k) L0)
theorem ok (k : Nat) : CtOK prog 49 (ct (f k)) := fn_ok func49 rfl (by decide) (hE k) L0 (Lc ev L0)
end names_Find
namespace schema_Find
def e (r : Int) : Res := ⟨.v (.one (.d (.int .i64) r)), []⟩
abbrev T (δ : Type) : Type := ByteArray → Int → (List D_api_Col) → ByteArray → Option δ
abbrev A {δ : Type} (g : T δ) : Arm δ := ⟨[.s T_api_Table, .d .str], [], fun x y => g x.1.1.1 x.1.1.2.1 x.1.1.2.2.1 x.2.1⟩
abbrev G : Type := T Int
def ct (g : G) : Ct := mkCt 0 [] [A g] e
section
variable {β : Type} (g49 : names_Find.G) (g50 : schema_words.G)
noncomputable abbrev env : FEnv := mkEnv prog f28 [(49, names_Find.ct g49), (50, schema_words.ct g50)] 0 [] []
def c (ret : Int → Option β) (a0 : ByteArray) (a1 : Int) (a2 : List D_api_Col) (a3 : ByteArray) : Option β := ((g50 a2).bind fun r0 => ((g49 r0 a3).bind fun r1 => (ret (r1))))
variable {g49} {g50}
theorem ev : EvA (env g49 g50) [] [0, 1] e (A (c g49 g50 some)) := fun x y => Eq.trans (b := (A (c g49 g50 fun r => some (e r))).G x y) (by kernel_rfl) (by simp only [A, c, bo, so, oa, os, on, ofs])
end
def f (k : Nat) (a0 : ByteArray) (a1 : Int) (a2 : List D_api_Col) (a3 : ByteArray) : Option Int := c (names_Find.f k) (schema_words.f k) some a0 a1 a2 a3
noncomputable abbrev E (k : Nat) : FEnv := env (names_Find.f k) (schema_words.f k) 
theorem hE (k : Nat) : EnvOK (E k).toEnv := ctsOK (Lc (names_Find.ok k) (Lc (schema_words.ok k) L0))
theorem ok (k : Nat) : CtOK prog 28 (ct (f k)) := fn_ok func28 rfl (by decide) (hE k) L0 (Lc ev L0)
end schema_Find
/-! ### api_Value: function 29 (by hand) -/
def api_Value.ct : Ct := delCt T_api_Value
section
open Go.RowKit
theorem api_Value.zero4 : ∃ z, (∀ w, (zeroValue 28).run Go.Proofs.Tryz.prog w = .ok z w) ∧ z.cells.size = 4 ∧ ∀ v ∈ z.cells.toList, v.oneCell' = true := by
 refine ⟨.agg #[.int .i64 0, .int .i64 0, .int .u64 0, .string (ByteArray.mk #[])], fun w => by kernel_rfl, rfl, ?_⟩
 intro v hv
 simp [Value.cells] at hv
 rcases hv with rfl | rfl | rfl | rfl <;> rfl
theorem api_Value.clear (w : World) (b n c o : Nat) (hn : 0 < n) {vs : Array Value} {el : TypeId} (hb : w.heap[b]? = some (.cells vs el (0, 0))) (hfit : o + n * 4 ≤ vs.size) (ty : TypeId) :
  ∃ arr, (Builtin.clear_ #[33] ty #[.slice (some ⟨b, o, none⟩) n c]).run Go.Proofs.Tryz.prog w = .ok (.tuple #[]) (w.setRow b arr) ∧ arr.size = vs.size ∧ arr.toList.take o = vs.toList.take o := by
 obtain ⟨z, hz, hz4, hz1⟩ := api_Value.zero4
 have hu : Go.Proofs.Tryz.prog.underlying 33 = some (.slice 28) := by kernel_rfl
 have hlen : (Builtin.zeroCells z.cells n).toList.length = n * 4 := by simp [Builtin.zeroCells, hz4]
 have hst := run_storeCells_at (P := Go.Proofs.Tryz.prog) b o el (Builtin.zeroCells z.cells n).toList 0 vs w hb (by rw [hlen]; omega) (by
  intro v hv
  simp only [Builtin.zeroCells] at hv
  simp at hv
  obtain ⟨k, hk, rfl⟩ := hv
  have hlt : k % z.cells.size < z.cells.size := Nat.mod_lt _ (by omega)
  rw [getElem!_pos z.cells _ hlt]
  exact hz1 _ (by simp))
 simp only [Nat.add_zero] at hst
 obtain ⟨m, rfl⟩ : ∃ m, n = m + 1 := ⟨n - 1, by omega⟩
 refine ⟨(vs.toList.take o ++ (Builtin.zeroCells z.cells (m + 1)).toList ++ vs.toList.drop (o + (Builtin.zeroCells z.cells (m + 1)).toList.length)).toArray, ?_, ?_, ?_⟩
 ·have hr : (Builtin.clear_ #[33] ty #[.slice (some ⟨b, o, none⟩) (m + 1) c]).run Go.Proofs.Tryz.prog w = ((storeCells ⟨b, o, none⟩ (Builtin.zeroCells z.cells (m + 1)).toList).run Go.Proofs.Tryz.prog w).andThen fun _ w' => .ok (.tuple #[]) w' := by
   simp [Builtin.clear_, run_underlying hu, hz, Result.andThen]
  rw [hr, hst]
  rfl
 ·simp only [List.size_toArray, List.length_append, List.length_take, List.length_drop, hlen]
  simp; omega
 ·simp only [List.toList_toArray]
  rw [List.append_assoc, List.take_append_of_le_length (by simp; omega), List.take_take, Nat.min_self]
theorem api_Value.src (b o m c : Nat) (w : World) {vs : Array Value} {el : TypeId} (hb : w.heap[b]? = some (.cells vs el (0, 0))) (hfit : o + m * 4 ≤ vs.size) (hone : ∀ u ∈ (vs.toList.drop o).take (m * 4), u.oneCell' = true) (base : Option Addr)
  (hbase : base = some ⟨b, o, none⟩ ∨ m = 0) :
  Src Go.Proofs.Tryz.prog 4 33 (.slice base m c) m ((vs.toList.drop o).take (m * 4)) w := by
 have hu : Go.Proofs.Tryz.prog.underlying 33 = some (.slice 28) := by kernel_rfl
 have hlen : ((vs.toList.drop o).take (m * 4)).length = m * 4 := by simp; omega
 have hc : ∀ w' : World, w'.heap = w.heap → (Builtin.firstCells 4 m (.slice base m c)).run Go.Proofs.Tryz.prog w' = .ok ((vs.toList.drop o).take (m * 4)).toArray w' := by
  intro w' hw
  rcases hbase with rfl | rfl
  ·have := run_loadCells_list (P := Go.Proofs.Tryz.prog) w' ⟨b, o, none⟩ ((vs.toList.drop o).take (m * 4)) (fun j u hj => by
    have hj' : j < m * 4 := by have := (List.getElem?_eq_some_iff.1 hj).1; rw [hlen] at this; exact this
    rw [List.getElem?_take, if_pos hj', List.getElem?_drop] at hj
    rw [addr_add]
    simp only [World.cell?, hw, hb]
    simpa using hj)
   rw [hlen] at this
   simpa [Builtin.firstCells] using this
  ·simp [Builtin.firstCells]
   cases base <;> first | rfl | simp [loadCells, loadCellsFrom]
 exact ⟨.inl ⟨28, hu⟩, fun _ => by simp [Builtin.lenOf], hc w rfl, hc w.drew rfl, hlen, hone⟩
theorem api_Value.calls (b len cap i j : Nat) (w : World) {vs : Array Value} {el : TypeId} (hb : w.heap[b]? = some (.cells vs el (0, 0))) (hsz : vs.size = cap * 4) (hij : i ≤ j) (hj : j ≤ len) (hlen : len ≤ cap)
  (hone : ∀ u ∈ vs.toList.take (len * 4), u.oneCell' = true) :
  Calls Go.Proofs.Tryz.prog 29 #[.slice (some ⟨b, 0, none⟩) len cap, .int .i64 i, .int .i64 j] w fun e w' => e = .returned (.slice (some ⟨b, 0, none⟩) (len - (j - i)) cap) ∧
   w'.os = w.os ∧ w'.tape = w.tape ∧ w'.output = w.output ∧ w'.heap.size = w.heap.size ∧ (∀ k, k ≠ b → w'.heap[k]? = w.heap[k]?) ∧
   ∃ arr, w'.heap[b]? = some (.cells arr el (0, 0)) ∧ arr.size = vs.size ∧ arr.toList.take ((len - (j - i)) * 4) = vs.toList.take (i * 4) ++ (vs.toList.drop (j * 4)).take ((len - j) * 4) := by
 have t33 : Go.Proofs.Tryz.prog.underlying 33 = some (.slice 28) := by kernel_rfl
 obtain ⟨i0, hi0, hz1⟩ : ∃ i0, Go.Proofs.Tryz.prog.info? 28 = some i0 ∧ i0.size = 4 := ⟨_, rfl, by kernel_rfl⟩
 by_cases heq : i = j
 ·subst heq
  have h0 : Calls Go.Proofs.Tryz.prog 29 #[.slice (some ⟨b, 0, none⟩) len cap, .int .i64 i, .int .i64 i] w fun e w' => e = .returned (.slice (some ⟨b, 0, none⟩) len cap) ∧ w' = w := by
   clear hb
   go_enter Go.Proofs.Tryz.func29, Go.Proofs.Tryz.ntmps29
   go_wp2
   all_goals (go_ret; exact ⟨rfl, rfl⟩)
  refine h0.mono ?_
  rintro e w' ⟨rfl, rfl⟩
  refine ⟨by rw [Nat.sub_self, Nat.sub_zero], rfl, rfl, rfl, rfl, fun _ _ => rfl, vs, hb, rfl, ?_⟩
  rw [Nat.sub_self, Nat.sub_zero, Nat.sub_mul]
  have e : len * 4 = i * 4 + (len * 4 - i * 4) := by omega
  conv => lhs; rw [e, List.take_add]
 ·have hlt : i < j := by omega
  obtain ⟨news, hnews⟩ : ∃ news, news = (vs.toList.drop (j * 4)).take ((len - j) * 4) := ⟨_, rfl⟩
  have hnl : news.length = (len - j) * 4 := by rw [hnews]; simp; omega
  obtain ⟨A, hA, hbase⟩ : ∃ A : Option Addr, (if cap = j then some (⟨b, 0, none⟩ : Addr) else some ⟨b, j * 4, none⟩) = A ∧ (A = some ⟨b, j * 4, none⟩ ∨ len - j = 0) := by
   by_cases h : cap = j
   ·exact ⟨_, rfl, .inr (by omega)⟩
   ·exact ⟨_, rfl, .inl (by simp [h])⟩
  have hone' : ∀ u ∈ (vs.toList.drop (j * 4)).take ((len - j) * 4), u.oneCell' = true := by
   intro u hu
   refine hone u ?_
   have e : len * 4 = j * 4 + (len - j) * 4 := by omega
   rw [e, List.take_add]
   exact List.mem_append_right _ hu
  have hsrc : Src Go.Proofs.Tryz.prog i0.size 33 (.slice A (len - j) (cap - j)) (len - j) news w.drew := by
   rw [hz1, hnews]
   exact api_Value.src b (j * 4) (len - j) (cap - j) w.drew hb (by omega) hone' A hbase
  obtain ⟨W1, hW1⟩ : ∃ W1, W1 = w.drew.setRow b (vs.toList.take (i * i0.size) ++ news ++ vs.toList.drop (i * i0.size + news.length)).toArray := ⟨_, rfl⟩
  have hb1 : W1.heap[b]? = some (.cells (vs.toList.take (i * i0.size) ++ news ++ vs.toList.drop (i * i0.size + news.length)).toArray el (0, 0)) := by
   rw [hW1]; exact setRow_heap _ _ _ _ _ _ hb
  obtain ⟨arr, hcl, has, hat⟩ := api_Value.clear W1 b (len - (i + (len - j))) (cap - (i + (len - j))) ((i + (len - j)) * 4) (by omega) hb1 (by simp [hnl, hz1]; omega) 0
  have hcl : ∀ ty, (Builtin.clear_ #[33] ty #[.slice (some ⟨b, (i + (len - j)) * 4, none⟩) (len - (i + (len - j))) (cap - (i + (len - j)))]).run Go.Proofs.Tryz.prog W1 = .ok (.tuple #[]) (W1.setRow b arr) := fun ty => hcl
  have hic : i ≤ cap := by omega
  have hjc : j ≤ cap := by omega
  have hroom : i + (len - j) ≤ cap := by omega
  have hfit : cap * i0.size ≤ vs.size := by rw [hz1, hsz]; exact Nat.le_refl _
  have hW : Hid (W1 = w.drew.setRow b (vs.toList.take (i * i0.size) ++ news ++ vs.toList.drop (i * i0.size + news.length)).toArray) := hW1
  have X : Hid (news = (vs.toList.drop (j * 4)).take ((len - j) * 4)) := hnews
  have X1 : Hid (W1.heap[b]? = some (.cells (vs.toList.take (i * i0.size) ++ news ++ vs.toList.drop (i * i0.size + news.length)).toArray el (0, 0))) := hb1
  have X2 : Hid (w.heap[b]? = some (.cells vs el (0, 0))) := hb
  have X3 : Hid (news.length = (len - j) * 4) := hnl
  have X4 : Hid (i0.size = 4) := hz1
  have X5 : Hid (arr.size = (vs.toList.take (i * i0.size) ++ news ++ vs.toList.drop (i * i0.size + news.length)).toArray.size) := has
  have X6 : Hid (arr.toList.take ((i + (len - j)) * 4) = (vs.toList.take (i * i0.size) ++ news ++ vs.toList.drop (i * i0.size + news.length)).toArray.toList.take ((i + (len - j)) * 4)) := hat
  clear hnews hb1 hW1 has hat hnl
  go_enter Go.Proofs.Tryz.func29, Go.Proofs.Tryz.ntmps29
  go_wp2_with fail
  go_region_law (refine step_append_row rfl (.tmp 22) (.tmp 25) 33 rfl 28 i0 t33 hi0 b i cap (len - j) (by simp [Act.eval, Act.put]) _ news (by simp [Act.eval, Act.put]) hsrc hroom hb hfit ?_; rw [← hW.out])
  go_wp2
  go_ret
  have hsetA := setRow_heap W1 b _ arr el (0, 0) X1.out
  refine ⟨by rw [show len - (j - i) = i + (len - j) by omega]; rfl, ?_, ?_, ?_, ?_, ?_, arr, hsetA, ?_, ?_⟩
  ·rw [hW.out]; rfl
  ·rw [hW.out]; rfl
  ·rw [hW.out]; rfl
  ·rw [size_setRow, hW.out, size_setRow]; rfl
  ·intro k hk
   rw [hW.out, setRow_other _ _ _ _ hk, setRow_other _ _ _ _ hk]; rfl
  ·rw [X5.out]; simp [X3.out, X4.out]; omega
  ·rw [show len - (j - i) = i + (len - j) by omega, X6.out, ← X.out, X4.out]
   rw [List.take_append_of_le_length (by simp [X3.out]; omega), List.take_of_length_le (by simp [X3.out]; omega)]
theorem api_Value.ok (k : Nat) : CtOK Go.Proofs.Tryz.prog 29 api_Value.ct := by
 refine del_ok (T := T_api_Value) (fun args w => ?_) (fun b len cap i j w _ _ h1 h2 h3 h4 h5 h6 => api_Value.calls b len cap i j w h1 h2 h3 h4 h5 h6)
 exact Go.Proofs.enters_of Go.Proofs.Tryz.func29 (by kernel_rfl) rfl _ _
end


namespace convert_refuse
def e (r : Int) : Res := ⟨.v (.one (.fn 77 [(0, 0)])), [some (.box [(.d (.int .i64) r)])]⟩
abbrev T (δ : Type) : Type := Int → Option δ
abbrev A {δ : Type} (g : T δ) : Arm δ := ⟨[.d (.int .i64)], [], fun x y => g x.1⟩
abbrev G : Type := T Int
def ct (g : G) : Ct := mkCt 0 [] [A g] e
section
variable {β : Type} 
noncomputable abbrev env : FEnv := mkEnv prog f52 [] 0 [] []
def c (ret : Int → Option β) (a0 : Int) : Option β := (ret (a0))
theorem ev : EvA (env) [] [0] e (A (c some)) := fun x y => Eq.trans (b := (A (c fun r => some (e r))).G x y) (by kernel_rfl) (by simp only [A, c, bo, so, oa, os, on, ofs])
end
def f (k : Nat) (a0 : Int) : Option Int := c  some a0
noncomputable abbrev E (k : Nat) : FEnv := env  
theorem hE (k : Nat) : EnvOK (E k).toEnv := ctsOK L0
theorem ok (k : Nat) : CtOK prog 52 (ct (f k)) := fn_ok func52 rfl (by decide) (hE k) L0 (Lc ev L0)
end convert_refuse
namespace convert_give
abbrev R : Type := Int × Int × Int × ByteArray
def e (r : R) : Res := ⟨.v (.one (.fn 78 [(0, 0)])), [some (.box [(.d (.int .i64) r.1), (.d (.int .i64) r.2.1), (.d (.int .u64) r.2.2.1), (.d .str r.2.2.2)])]⟩
abbrev T (δ : Type) : Type := Int → Int → Int → ByteArray → Option δ
abbrev A {δ : Type} (g : T δ) : Arm δ := ⟨[.s T_api_Value], [], fun x y => g x.1.1.1 x.1.1.2.1 x.1.1.2.2.1 x.1.1.2.2.2.1⟩
abbrev G : Type := T R
def ct (g : G) : Ct := mkCt 0 [] [A g] e
section
variable {β : Type} 
noncomputable abbrev env : FEnv := mkEnv prog f53 [] 0 [] []
def c (ret : R → Option β) (a0 a1 a2 : Int) (a3 : ByteArray) : Option β := (ret (a0, a1, a2, a3))
theorem ev : EvA (env) [] [0] e (A (c some)) := fun x y => Eq.trans (b := (A (c fun r => some (e r))).G x y) (by kernel_rfl) (by simp only [A, c, bo, so, oa, os, on, ofs])
end
def f (k : Nat) (a0 a1 a2 : Int) (a3 : ByteArray) : Option R := c  some a0 a1 a2 a3
noncomputable abbrev E (k : Nat) : FEnv := env  
theorem hE (k : Nat) : EnvOK (E k).toEnv := ctsOK L0
theorem ok (k : Nat) : CtOK prog 53 (ct (f k)) := fn_ok func53 rfl (by decide) (hE k) L0 (Lc ev L0)
end convert_give
namespace convert_Can
def e (r : Bool) : Res := ⟨.v (.one (.d .bool r)), []⟩
abbrev T (δ : Type) : Type := Int → Int → Option δ
abbrev A {δ : Type} (g : T δ) : Arm δ := ⟨[.d (.int .i64), .d (.int .i64)], [], fun x y => g x.1 x.2.1⟩
abbrev G : Type := T Bool
def ct (g : G) : Ct := mkCt 0 [] [A g] e
abbrev S0 (δ : Type) : Type := Int → Int → Bool → Option δ
abbrev A_0 {δ : Type} (s : S0 δ) : Arm δ := ⟨[.d (.int .i64), .d (.int .i64), .d .bool], [], fun x y => s x.1 x.2.1 x.2.2.1⟩
abbrev S1 (δ : Type) : Type := Int → Int → Option δ
abbrev A_1 {δ : Type} (s : S1 δ) : Arm δ := ⟨[.d (.int .i64), .d (.int .i64)], [], fun x y => s x.1 x.2.1⟩
def sg0 (s : S0 Bool) : Seg := mkSg [1, 0, 1] [] [0, 1, 18] [A_0 s] e
def sg1 (s : S1 Bool) : Seg := mkSg [1, 1] [] [0, 1] [A_1 s] e
section
variable {β : Type} (s0 : S0 Bool) (s1 : S1 Bool)
noncomputable abbrev env : FEnv := mkEnv prog f54 [] 0 [] [sg0 s0, sg1 s1]
def c (ret : Bool → Option β) (a0 a1 : Int) : Option β := (bif (decide (a0 < (1 : Int))) then ((s0 a0 a1 true).bind ret) else (bif (decide (a0 > (5 : Int))) then ((s0 a0 a1 true).bind ret) else (bif (decide (a1 < (1 : Int))) then ((s0 a0 a1 true).bind ret) else ((s0 a0 a1 (decide (a1 > (5 : Int)))).bind ret))))
def s0c (ret : Bool → Option β) (x0 x1 : Int) (x2 : Bool) : Option β := (bif x2 then (ret (false)) else ((s1 x0 x1).bind ret))
def s1c (ret : Bool → Option β) (x0 x1 : Int) : Option β := (bif ((x0 == (1 : Int)) && ((x1 == (4 : Int)) && true)) then (bif ((x0 == (1 : Int)) && ((x1 == (4 : Int)) && true)) then (ret (false)) else (ret (true))) else (bif ((x0 == (4 : Int)) && ((x1 == (1 : Int)) && true)) then (bif ((x0 == (4 : Int)) && ((x1 == (1 : Int)) && true)) then (ret (false)) else (ret (true))) else (bif ((x0 == (3 : Int)) && ((x1 == (5 : Int)) && true)) then (bif ((x0 == (3 : Int)) && ((x1 == (5 : Int)) && true)) then (ret (false)) else (ret (true))) else (bif ((x0 == (5 : Int)) && ((x1 == (3 : Int)) && true)) then (ret (false)) else (ret (true))))))
variable {s0} {s1}
theorem ev : EvA (env s0 s1) [] [0, 1] e (A (c s0 some)) := fun x y => Eq.trans (b := (A (c s0 fun r => some (e r))).G x y) (by kernel_rfl) (by simp only [A, c, bo, so, oa, os, on, ofs])
theorem s0_ev : EvA (env s0 s1) [1, 0, 1] [0, 1, 18] e (A_0 (s0c s1 some)) := fun x y => Eq.trans (b := (A_0 (s0c s1 fun r => some (e r))).G x y) (by kernel_rfl) (by simp only [A_0, s0c, bo, so, oa, os, on, ofs])
theorem s1_ev : EvA (env s0 s1) [1, 1] [0, 1] e (A_1 (s1c some)) := fun x y => Eq.trans (b := (A_1 (s1c fun r => some (e r))).G x y) (by kernel_rfl) (by simp only [A_1, s1c, bo, so, oa, os, on, ofs])
end
mutual
def s0 : Nat → S0 Bool
 | 0, _, _, _ => none
 | k + 1, x0, x1, x2 => s0c (s1 k) some x0 x1 x2
def s1 : Nat → S1 Bool
 | 0, _, _ => none
 | k + 1, x0, x1 => s1c  some x0 x1
end
def f (k : Nat) (a0 a1 : Int) : Option Bool := c (s0 k) some a0 a1
noncomputable abbrev E (k : Nat) : FEnv := env  (s0 k) (s1 k)
theorem hE (k : Nat) : EnvOK (E k).toEnv := ctsOK L0
theorem sk : ∀ k, ∀ s ∈ [sg0 (s0 k), sg1 (s1 k)], SegB prog f54 0 s
 | 0 => (Lc (sn (Lc (fun _ _ => rfl) L0)) (Lc (sn (Lc (fun _ _ => rfl) L0)) L0))
 | k + 1 => (Lc (sg_ok (hE k) (sk k) (Lc s0_ev L0)) (Lc (sg_ok (hE k) (sk k) (Lc s1_ev L0)) L0))
theorem ok (k : Nat) : CtOK prog 54 (ct (f k)) := fn_ok func54 rfl (by decide) (hE k) (sk k) (Lc ev L0)
end convert_Can
/-! ### math_Float64bits: function 108 (no body) -/
def math_Float64bits.ct (g : Nat → Option Int) : Ct where
 nin := 0
 mv := []
 F := fun tvs blks {β} K => match tvs, blks with
  | [.v (.one (.d .flt a0))], [] => (g a0).bind fun r => K ⟨.v (.one (.d (.int .u64) r)), []⟩
  | _, _ => none
 legit := fun _ _ K _ h => by split at h; exact (legit1 K h :); simp at h
def math_Float64bits.f (k a0 : Nat) : Option Int := some (a0)
theorem math_Float64bits.ok (k : Nat) : CtOK Go.Proofs.Tryz.prog 108 (math_Float64bits.ct (math_Float64bits.f k)) := by
 refine ct_extern ?_
 intro tvs blks res h
 simp only [math_Float64bits.ct] at h
 split at h
 ·simp only [math_Float64bits.f, os, Option.some.injEq] at h; subst h
  rename_i a0
  refine ⟨.int .u64 a0, ?_, rfl, rfl⟩
  intro w S ρ H vals hm hv
  obtain ⟨v0, m0, rfl, h0, hv⟩ := All2.cons_left hv
  cases All2.nil_left hv
  simp only [RepTV, RepVV, RepAV, Rd, List.cons.injEq, and_true] at h0
  subst h0
  exact ⟨run_callFunc_extern (e := Extern.MathFloatBits.float64bits) Go.Proofs.Tryz.func108 (by kernel_rfl) (by kernel_rfl) (by kernel_rfl) (by kernel_rfl) _ w, rfl⟩
 ·simp at h


namespace reals_FromInt
abbrev R : Type := Int × Bool
def e (r : R) : Res := ⟨.tup [(.one (.d (.int .u64) r.1)), (.one (.d .bool r.2))], []⟩
abbrev T (δ : Type) : Type := Int → Option δ
abbrev A {δ : Type} (g : T δ) : Arm δ := ⟨[.d (.int .i64)], [], fun x y => g x.1⟩
abbrev G : Type := T R
def ct (g : G) : Ct := mkCt 0 [] [A g] e
section
variable {β : Type} (g108 : Nat → Option Int)
noncomputable abbrev env : FEnv := mkEnv prog f79 [(108, math_Float64bits.ct g108)] 0 [] []
def c (ret : R → Option β) (a0 : Int) : Option β := (bif (((Ieee.Format.order (FloatKind.format FloatKind.f64) (FloatKind.nearest FloatKind.f64 a0) (4890909195324358656 : Nat)) == (Option.some Ordering.gt)) || ((Ieee.Format.order (FloatKind.format FloatKind.f64) (FloatKind.nearest FloatKind.f64 a0) (4890909195324358656 : Nat)) == (Option.some Ordering.eq))) then (ret ((0 : Int), false)) else (bif (((Option.isSome (Ieee.Datum.toInt Ieee.Toward.zero (FloatKind.decode FloatKind.f64 (FloatKind.nearest FloatKind.f64 a0)))) && (decide ((-9223372036854775808 : Int) ≤ (Option.getD (Ieee.Datum.toInt Ieee.Toward.zero (FloatKind.decode FloatKind.f64 (FloatKind.nearest FloatKind.f64 a0))) (0 : Int))))) && (decide ((Option.getD (Ieee.Datum.toInt Ieee.Toward.zero (FloatKind.decode FloatKind.f64 (FloatKind.nearest FloatKind.f64 a0))) (0 : Int)) ≤ (9223372036854775807 : Int)))) then (bif ((Option.getD (Ieee.Datum.toInt Ieee.Toward.zero (FloatKind.decode FloatKind.f64 (FloatKind.nearest FloatKind.f64 a0))) (0 : Int)) != a0) then (ret ((0 : Int), false)) else ((g108 (FloatKind.nearest FloatKind.f64 a0)).bind fun r0 => (ret (r0, true)))) else none))
variable {g108}
theorem ev : EvA (env g108) [] [0] e (A (c g108 some)) := fun x y => Eq.trans (b := (A (c g108 fun r => some (e r))).G x y) (by kernel_rfl) (by simp only [A, c, bo, so, oa, os, on, ofs])
end
def f (k : Nat) (a0 : Int) : Option R := c (math_Float64bits.f k) some a0
noncomputable abbrev E (k : Nat) : FEnv := env (math_Float64bits.f k) 
theorem hE (k : Nat) : EnvOK (E k).toEnv := ctsOK (Lc (math_Float64bits.ok k) L0)
theorem ok (k : Nat) : CtOK prog 79 (ct (f k)) := fn_ok func79 rfl (by decide) (hE k) L0 (Lc ev L0)
end reals_FromInt
namespace convert_eight
def e (r : ByteArray) : Res := ⟨.v (.one (.d .str r)), []⟩
abbrev T (δ : Type) : Type := Int → Option δ
abbrev A {δ : Type} (g : T δ) : Arm δ := ⟨[.d (.int .u64)], [], fun x y => g x.1⟩
abbrev G : Type := T ByteArray
def ct (g : G) : Ct := mkCt 0 [] [A g] e
abbrev S0 (δ : Type) : Type := Int → Int → (List Int) → Option δ
abbrev A_0 {δ : Type} (s : S0 δ) : Arm δ := ⟨[.d (.int .u64), .k (.arr 0 8), .d (.int .i64)], [.own (.int .u8) true], fun x y => s x.1 x.2.2.1 y.1⟩
def sg0 (s : S0 ByteArray) : Seg := mkSg [4, 1, 0, 1, 1] [] [0, 3, 5] [A_0 s] e
section
variable {β : Type} (s0 : S0 ByteArray)
noncomputable abbrev env : FEnv := mkEnv prog f80 [] 0 [] [sg0 s0]
def c (ret : ByteArray → Option β) (a0 : Int) : Option β := ((s0 a0 (0 : Int) [(0 : Int), (0 : Int), (0 : Int), (0 : Int), (0 : Int), (0 : Int), (0 : Int), (0 : Int)]).bind ret)
def s0c (ret : ByteArray → Option β) (x0 x1 : Int) (x2 : List Int) : Option β := (bif (decide (x1 < (8 : Int))) then (bif (decide ((0 : Int) ≤ (IntKind.wrap .i64 ((56 : Int) - (IntKind.wrap .i64 ((8 : Int) * x1)))))) then (bif ((decide ((0 : Int) ≤ x1)) && (decide (x1 < (8 : Int)))) then ((s0 x0 (IntKind.wrap .i64 (x1 + (1 : Int))) (List.set x2 (Int.toNat x1) (IntKind.wrap .u8 (Int.fdiv x0 ((2 : Int) ^ (Min.min (Int.toNat (IntKind.wrap .i64 ((56 : Int) - (IntKind.wrap .i64 ((8 : Int) * x1))))) (64 : Nat))))))).bind ret) else none) else none) else (ret ((ByteArray.mk (List.toArray (List.map (fun n => (UInt8.ofNat (Int.toNat n))) (List.take (8 : Nat) (List.drop (0 : Nat) x2))))))))
variable {s0}
theorem ev : EvA (env s0) [] [0] e (A (c s0 some)) := fun x y => Eq.trans (b := (A (c s0 fun r => some (e r))).G x y) (by kernel_rfl) (by simp only [A, c, bo, so, oa, os, on, ofs])
theorem s0_ev : EvA (env s0) [4, 1, 0, 1, 1] [0, 3, 5] e (A_0 (s0c s0 some)) := fun x y => Eq.trans (b := (A_0 (s0c s0 fun r => some (e r))).G x y) (by kernel_rfl) (by simp only [A_0, s0c, bo, so, oa, os, on, ofs])
end
def s0 : Nat → S0 ByteArray
 | 0, _, _, _ => none
 | k + 1, x0, x1, x2 => s0c (s0 k) some x0 x1 x2
def f (k : Nat) (a0 : Int) : Option ByteArray := c (s0 k) some a0
noncomputable abbrev E (k : Nat) : FEnv := env  (s0 k)
theorem hE (k : Nat) : EnvOK (E k).toEnv := ctsOK L0
theorem sk : ∀ k, ∀ s ∈ [sg0 (s0 k)], SegB prog f80 0 s
 | 0 => (Lc (sn (Lc (fun _ _ => rfl) L0)) L0)
 | k + 1 => (Lc (sg_ok (hE k) (sk k) (Lc s0_ev L0)) L0)
theorem ok (k : Nat) : CtOK prog 80 (ct (f k)) := fn_ok func80 rfl (by decide) (hE k) (sk k) (Lc ev L0)
end convert_eight
end Go.Proofs.YtijjlpgcpdapnaaGreatDoor.Aev
