import Derived.Test.YtimadphjdkjgaaaDoorProg
import Derived.Test.YtimadphjdkjgaaaDoorAevY
import Derived.Test.YtimadphjdkjgaaaDoorAevZ
import Derived.Shelf.Strings.OnBuilder
import Derived.WalkKit
import Derived.Below
/- strings.Join: the library's own contract, for this program (the numbers: by a program of this session). -/
namespace Go.Proofs.YtimadphjdkjgaaaDoor.Aev
set_option linter.unusedVariables false
set_option linter.unusedSimpArgs false
set_option maxRecDepth 100000
set_option maxHeartbeats 4000000
open Go
open Go.Shelf Go.RowKit
def shelfR : Ren where
 f := fun x => match x with | 156 => 29 | 165 => 39 | 166 => 40 | 169 => 41 | 240 => 52 | 241 => 53 | 276 => 65 | 277 => 66 | n => n
 t := fun x => match x with | 31 => 23 | 9 => 9 | 3 => 3 | 4 => 4 | 0 => 0 | 20 => 20 | 72 => 89 | 76 => 92 | 70 => 87 | 37 => 77 | 75 => 91 | 127 => 103 | 164 => 115 | 5 => 5 | 80 => 79 | n => n
 g := fun x => match x with | n => n
theorem shelfL : Lays.n156 Go.Proofs.Tryd.prog shelfR where
 mixed := Eq.refl true
 f156 := Eq.trans Go.Proofs.Tryd.func29 (congrArg some (Eq.refl (Body.n156 shelfR)))
 f165 := Eq.trans Go.Proofs.Tryd.func39 (congrArg some (Eq.refl (Body.n165 shelfR)))
 f166 := Eq.trans Go.Proofs.Tryd.func40 (congrArg some (Eq.refl (Body.n166 shelfR)))
 f169 := Eq.trans Go.Proofs.Tryd.func41 (congrArg some (Eq.refl (Body.n169 shelfR)))
 f240 := Eq.trans Go.Proofs.Tryd.func52 (congrArg some (Eq.refl (Body.n240 shelfR)))
 f241 := Eq.trans Go.Proofs.Tryd.func53 (congrArg some (Eq.refl (Body.n241 shelfR)))
 f276 := Eq.trans Go.Proofs.Tryd.func65 (congrArg some (Eq.refl (Body.n276 shelfR)))
 f277 := Eq.trans Go.Proofs.Tryd.func66 (congrArg some (Eq.refl (Body.n277 shelfR)))
 t0 := Go.Proofs.Tryd.underlying0
 a0 := Go.Proofs.Tryd.isAgg0
 z0 := Go.Proofs.Tryd.sizeOf0
 v0 := Go.Proofs.Tryd.zeroValue0
 t3 := Go.Proofs.Tryd.underlying3
 a3 := Go.Proofs.Tryd.isAgg3
 z3 := Go.Proofs.Tryd.sizeOf3
 v3 := Go.Proofs.Tryd.zeroValue3
 t4 := Go.Proofs.Tryd.underlying4
 a4 := Go.Proofs.Tryd.isAgg4
 z4 := Go.Proofs.Tryd.sizeOf4
 v4 := Go.Proofs.Tryd.zeroValue4
 t9 := Go.Proofs.Tryd.underlying9
 a9 := Go.Proofs.Tryd.isAgg9
 z9 := Go.Proofs.Tryd.sizeOf9
 v9 := Go.Proofs.Tryd.zeroValue9
 t20 := Go.Proofs.Tryd.underlying20
 a20 := Go.Proofs.Tryd.isAgg20
 z20 := Go.Proofs.Tryd.sizeOf20
 v20 := Go.Proofs.Tryd.zeroValue20
 t31 := Go.Proofs.Tryd.underlying23
 a31 := Go.Proofs.Tryd.isAgg23
 z31 := Go.Proofs.Tryd.sizeOf23
 v31 := Go.Proofs.Tryd.zeroValue23
 t37 := Go.Proofs.Tryd.underlying77
 a37 := Go.Proofs.Tryd.isAgg77
 z37 := Go.Proofs.Tryd.sizeOf77
 v37 := Go.Proofs.Tryd.zeroValue77
 t70 := Go.Proofs.Tryd.underlying87
 a70 := Go.Proofs.Tryd.isAgg87
 z70 := Go.Proofs.Tryd.sizeOf87
 v70 := Go.Proofs.Tryd.zeroValue87
 t72 := Go.Proofs.Tryd.underlying89
 a72 := Go.Proofs.Tryd.isAgg89
 z72 := Go.Proofs.Tryd.sizeOf89
 v72 := Go.Proofs.Tryd.zeroValue89
 t75 := Go.Proofs.Tryd.underlying91
 a75 := Go.Proofs.Tryd.isAgg91
 z75 := Go.Proofs.Tryd.sizeOf91
 v75 := Go.Proofs.Tryd.zeroValue91
 t76 := Go.Proofs.Tryd.underlying92
 a76 := Go.Proofs.Tryd.isAgg92
 z76 := Go.Proofs.Tryd.sizeOf92
 v76 := Go.Proofs.Tryd.zeroValue92
 t127 := Go.Proofs.Tryd.underlying103
 a127 := Go.Proofs.Tryd.isAgg103
 z127 := Go.Proofs.Tryd.sizeOf103
 v127 := Go.Proofs.Tryd.zeroValue103
 t164 := Go.Proofs.Tryd.underlying115
 a164 := Go.Proofs.Tryd.isAgg115
 z164 := Go.Proofs.Tryd.sizeOf115
 v164 := Go.Proofs.Tryd.zeroValue115
theorem shelfX : Builder.Extra Go.Proofs.Tryd.prog shelfR where
 sizeBuilder := by kernel_rfl
 liesBuilder := by kernel_rfl
 t5 := by kernel_rfl
 a5 := by intro w; kernel_rfl
 z5 := by intro w; kernel_rfl
 v5 := by intro w; kernel_rfl
 infoByte := by kernel_rfl
 cellsByte := by kernel_rfl
 sizeByte := by kernel_rfl
 neB5 := by decide
theorem rd_texts {w : World} {S : Nat → Prop} {v : Value} {xs : List ByteArray} (h : Rd w S (.sl .str) [v] xs) (hS : ∀ b, S b → b < w.heap.size) :
  (∃ base cap, v = .slice base 0 cap ∧ xs = []) ∨ ∃ bk o cap, v = .slice (some ⟨bk, o, none⟩) xs.length cap ∧ xs ≠ [] ∧ xs.length ≤ cap ∧ bk < w.heap.size ∧ ∀ (j : Nat) x, xs[j]? = some x → w.cell? ⟨bk, o + j, none⟩ = some (.string x) := by
 obtain ⟨base, len, cap, hv, hl, hc, hsp, _, hr⟩ := h
 simp only [List.cons.injEq, and_true] at hv
 have hl : len = List.length xs := hl
 by_cases hx : xs = []
 ·left; subst hx; exact ⟨base, cap, by rw [hv, hl]; rfl, rfl⟩
 ·right
  obtain ⟨a, rfl, hSa, hcell⟩ := hr hx
  have hpos := List.length_pos_iff.2 hx
  have hs := hsp a rfl (by omega)
  obtain ⟨bk, o, sp⟩ := a
  simp only at hs; subst hs
  refine ⟨bk, o, cap, by rw [hv, hl], hx, by omega, hS _ hSa, fun j x hj => ?_⟩
  obtain ⟨hlt, rfl⟩ := List.getElem?_eq_some_iff.1 hj
  obtain ⟨us, ⟨c, e, fr, k1, k2, k3⟩, k4⟩ := hcell j hlt
  have k4 : us = [.string xs[j]] := k4
  simp only [Ty.size, Nat.mul_one] at k2 k3
  have hlt2 : o + j < c.size := by omega
  rw [k4, List.drop_eq_getElem_cons (by simpa using hlt2)] at k3
  simp only [List.take_succ_cons, List.take_zero, List.cons.injEq, and_true] at k3
  simp only [World.cell?, k1]
  rw [Array.getElem?_eq_getElem hlt2]
  simpa using k3.symm
def joinL (xs : List ByteArray) (sep : ByteArray) : List UInt8 := Lib.join (xs.map (·.data.toList)) sep.data.toList
theorem join_calls (v : Value) (xs : List ByteArray) (sep : ByteArray) (w : World) (S : Nat → Prop) (h : Rd w S (.sl .str) [v] xs) (hS : ∀ b, S b → b < w.heap.size) (h1 : (joinL xs sep).length ≤ 35184372088832) (h2 : xs.length ≤ 35184372088832) :
  Calls Go.Proofs.Tryd.prog 29 #[v, .string sep] w fun e w' => e = .returned (.string ⟨(joinL xs sep).toArray⟩) ∧ Below w.heap.size w w' := by
 rcases rd_texts h hS with ⟨base, cap, rfl, rfl⟩ | ⟨bk, o, cap, rfl, hx, hcap, hbk, hcell⟩
 ·refine (Any.strings_Join_none shelfL shelfX base cap sep w).mono ?_
  rintro e w' ⟨rfl, rfl⟩
  exact ⟨rfl, Below.refl _ _⟩
 ·exact Any.strings_Join shelfL shelfX bk o cap xs sep w hcell hbk (by omega) hcap (by unfold joinL at h1; omega)
end Go.Proofs.YtimadphjdkjgaaaDoor.Aev
