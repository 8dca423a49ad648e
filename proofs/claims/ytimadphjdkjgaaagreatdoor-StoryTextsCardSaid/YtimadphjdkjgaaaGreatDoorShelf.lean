import Derived.Test.YtimadphjdkjgaaaGreatDoorProg
import Derived.Test.YtimadphjdkjgaaaGreatDoorAevY
import Derived.Test.YtimadphjdkjgaaaGreatDoorAevZ
import Derived.Shelf.Strings.OnBuilder
import Derived.WalkKit
import Derived.Below
/- strings.Join: the library's own contract, for this program (the numbers: by a program of this session). -/
namespace Go.Proofs.YtimadphjdkjgaaaGreatDoor.Aev
set_option linter.unusedVariables false
set_option linter.unusedSimpArgs false
set_option maxRecDepth 100000
set_option maxHeartbeats 4000000
open Go
open Go.Shelf Go.RowKit
def shelfR : Ren where
 f := fun x => match x with | 156 => 59 | 165 => 85 | 166 => 86 | 169 => 87 | 240 => 106 | 241 => 107 | 276 => 121 | 277 => 122 | n => n
 t := fun x => match x with | 31 => 24 | 9 => 9 | 3 => 3 | 4 => 4 | 0 => 0 | 20 => 20 | 72 => 136 | 76 => 139 | 70 => 134 | 37 => 90 | 75 => 138 | 127 => 156 | 164 => 164 | 5 => 5 | 80 => 92 | n => n
 g := fun x => match x with | n => n
theorem shelfL : Lays.n156 Go.Proofs.Tryz.prog shelfR where
 mixed := Eq.refl true
 f156 := Eq.trans Go.Proofs.Tryz.func59 (congrArg some (Eq.refl (Body.n156 shelfR)))
 f165 := Eq.trans Go.Proofs.Tryz.func85 (congrArg some (Eq.refl (Body.n165 shelfR)))
 f166 := Eq.trans Go.Proofs.Tryz.func86 (congrArg some (Eq.refl (Body.n166 shelfR)))
 f169 := Eq.trans Go.Proofs.Tryz.func87 (congrArg some (Eq.refl (Body.n169 shelfR)))
 f240 := Eq.trans Go.Proofs.Tryz.func106 (congrArg some (Eq.refl (Body.n240 shelfR)))
 f241 := Eq.trans Go.Proofs.Tryz.func107 (congrArg some (Eq.refl (Body.n241 shelfR)))
 f276 := Eq.trans Go.Proofs.Tryz.func121 (congrArg some (Eq.refl (Body.n276 shelfR)))
 f277 := Eq.trans Go.Proofs.Tryz.func122 (congrArg some (Eq.refl (Body.n277 shelfR)))
 t0 := Go.Proofs.Tryz.underlying0
 a0 := Go.Proofs.Tryz.isAgg0
 z0 := Go.Proofs.Tryz.sizeOf0
 v0 := Go.Proofs.Tryz.zeroValue0
 t3 := Go.Proofs.Tryz.underlying3
 a3 := Go.Proofs.Tryz.isAgg3
 z3 := Go.Proofs.Tryz.sizeOf3
 v3 := Go.Proofs.Tryz.zeroValue3
 t4 := Go.Proofs.Tryz.underlying4
 a4 := Go.Proofs.Tryz.isAgg4
 z4 := Go.Proofs.Tryz.sizeOf4
 v4 := Go.Proofs.Tryz.zeroValue4
 t9 := Go.Proofs.Tryz.underlying9
 a9 := Go.Proofs.Tryz.isAgg9
 z9 := Go.Proofs.Tryz.sizeOf9
 v9 := Go.Proofs.Tryz.zeroValue9
 t20 := Go.Proofs.Tryz.underlying20
 a20 := Go.Proofs.Tryz.isAgg20
 z20 := Go.Proofs.Tryz.sizeOf20
 v20 := Go.Proofs.Tryz.zeroValue20
 t31 := Go.Proofs.Tryz.underlying24
 a31 := Go.Proofs.Tryz.isAgg24
 z31 := Go.Proofs.Tryz.sizeOf24
 v31 := Go.Proofs.Tryz.zeroValue24
 t37 := Go.Proofs.Tryz.underlying90
 a37 := Go.Proofs.Tryz.isAgg90
 z37 := Go.Proofs.Tryz.sizeOf90
 v37 := Go.Proofs.Tryz.zeroValue90
 t70 := Go.Proofs.Tryz.underlying134
 a70 := Go.Proofs.Tryz.isAgg134
 z70 := Go.Proofs.Tryz.sizeOf134
 v70 := Go.Proofs.Tryz.zeroValue134
 t72 := Go.Proofs.Tryz.underlying136
 a72 := Go.Proofs.Tryz.isAgg136
 z72 := Go.Proofs.Tryz.sizeOf136
 v72 := Go.Proofs.Tryz.zeroValue136
 t75 := Go.Proofs.Tryz.underlying138
 a75 := Go.Proofs.Tryz.isAgg138
 z75 := Go.Proofs.Tryz.sizeOf138
 v75 := Go.Proofs.Tryz.zeroValue138
 t76 := Go.Proofs.Tryz.underlying139
 a76 := Go.Proofs.Tryz.isAgg139
 z76 := Go.Proofs.Tryz.sizeOf139
 v76 := Go.Proofs.Tryz.zeroValue139
 t127 := Go.Proofs.Tryz.underlying156
 a127 := Go.Proofs.Tryz.isAgg156
 z127 := Go.Proofs.Tryz.sizeOf156
 v127 := Go.Proofs.Tryz.zeroValue156
 t164 := Go.Proofs.Tryz.underlying164
 a164 := Go.Proofs.Tryz.isAgg164
 z164 := Go.Proofs.Tryz.sizeOf164
 v164 := Go.Proofs.Tryz.zeroValue164
theorem shelfX : Builder.Extra Go.Proofs.Tryz.prog shelfR where
 sizeBuilder := by kernel_rfl
 liesBuilder := by kernel_rfl
 t5 := by kernel_rfl
 a5 := by intro w; kernel_rfl
 z5 := by intro w; kernel_rfl
 v5 := by intro w; kernel_rfl
 infoByte := by kernel_rfl
 cellsByte := by kernel_rfl
 sizeByte := by kernel_rfl
 neB5 := by decide
theorem rd_texts {w : World} {S : Nat → Prop} {v : Value} {xs : List ByteArray} (h : Rd w S (.sl .str) [v] xs) (hS : ∀ b, S b → b < w.heap.size) :
  (∃ base cap, v = .slice base 0 cap ∧ xs = []) ∨ ∃ bk o cap, v = .slice (some ⟨bk, o, none⟩) xs.length cap ∧ xs ≠ [] ∧ xs.length ≤ cap ∧ bk < w.heap.size ∧ ∀ (j : Nat) x, xs[j]? = some x → w.cell? ⟨bk, o + j, none⟩ = some (.string x) := by
 obtain ⟨base, len, cap, hv, hl, hc, hsp, _, hr⟩ := h
 simp only [List.cons.injEq, and_true] at hv
 have hl : len = List.length xs := hl
 by_cases hx : xs = []
 ·left; subst hx; exact ⟨base, cap, by rw [hv, hl]; rfl, rfl⟩
 ·right
  obtain ⟨a, rfl, hSa, hcell⟩ := hr hx
  have hpos := List.length_pos_iff.2 hx
  have hs := hsp a rfl (by omega)
  obtain ⟨bk, o, sp⟩ := a
  simp only at hs; subst hs
  refine ⟨bk, o, cap, by rw [hv, hl], hx, by omega, hS _ hSa, fun j x hj => ?_⟩
  obtain ⟨hlt, rfl⟩ := List.getElem?_eq_some_iff.1 hj
  obtain ⟨us, ⟨c, e, fr, k1, k2, k3⟩, k4⟩ := hcell j hlt
  have k4 : us = [.string xs[j]] := k4
  simp only [Ty.size, Nat.mul_one] at k2 k3
  have hlt2 : o + j < c.size := by omega
  rw [k4, List.drop_eq_getElem_cons (by simpa using hlt2)] at k3
  simp only [List.take_succ_cons, List.take_zero, List.cons.injEq, and_true] at k3
  simp only [World.cell?, k1]
  rw [Array.getElem?_eq_getElem hlt2]
  simpa using k3.symm
def joinL (xs : List ByteArray) (sep : ByteArray) : List UInt8 := Lib.join (xs.map (·.data.toList)) sep.data.toList
theorem join_calls (v : Value) (xs : List ByteArray) (sep : ByteArray) (w : World) (S : Nat → Prop) (h : Rd w S (.sl .str) [v] xs) (hS : ∀ b, S b → b < w.heap.size) (h1 : (joinL xs sep).length ≤ 35184372088832) (h2 : xs.length ≤ 35184372088832) :
  Calls Go.Proofs.Tryz.prog 59 #[v, .string sep] w fun e w' => e = .returned (.string ⟨(joinL xs sep).toArray⟩) ∧ Below w.heap.size w w' := by
 rcases rd_texts h hS with ⟨base, cap, rfl, rfl⟩ | ⟨bk, o, cap, rfl, hx, hcap, hbk, hcell⟩
 ·refine (Any.strings_Join_none shelfL shelfX base cap sep w).mono ?_
  rintro e w' ⟨rfl, rfl⟩
  exact ⟨rfl, Below.refl _ _⟩
 ·exact Any.strings_Join shelfL shelfX bk o cap xs sep w hcell hbk (by omega) hcap (by unfold joinL at h1; omega)
end Go.Proofs.YtimadphjdkjgaaaGreatDoor.Aev
