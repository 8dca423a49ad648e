import Derived.Test.YtimadphjdkjgaaaGreatDoorProg
import Derived.Test.YtimadphjdkjgaaaGreatDoorAevY
import Derived.Test.YtimadphjdkjgaaaGreatDoorAevZ
import Derived.Shelf.Strings.Split
import Derived.WalkKit
import Derived.Below
/- strings.Split: the library's own contract, for this program (the numbers: by a program of this session). -/
namespace Go.Proofs.YtimadphjdkjgaaaGreatDoor.Aev
set_option linter.unusedVariables false
set_option linter.unusedSimpArgs false
set_option maxRecDepth 100000
set_option maxHeartbeats 4000000
open Go
open Go.Shelf Go.RowKit
def splitR : Ren where
 f := fun x => match x with | 146 => 23 | 221 => 51 | 268 => 80 | 138 => 81 | 143 => 82 | 195 => 101 | 197 => 102 | 218 => 103 | 219 => 104 | 260 => 114 | 217 => 115 | 225 => 116 | 224 => 117 | 267 => 118 | 266 => 130 | 314 => 131 | n => n
 t := fun x => match x with | 9 => 9 | 31 => 24 | 3 => 3 | 4 => 4 | 0 => 0 | 105 => 152 | 21 => 21 | 5 => 5 | 46 => 142 | 119 => 174 | 139 => 177 | 138 => 176 | 146 => 179 | 51 => 178 | n => n
 g := fun x => match x with | 1 => 0 | 3 => 1 | 4 => 2 | n => n
theorem splitLays : Lays.n146 Go.Proofs.Tryz.prog splitR where
 mixed := Eq.refl true
 f138 := Eq.trans Go.Proofs.Tryz.func81 (congrArg some (Eq.refl (Body.n138 splitR)))
 f143 := Eq.trans Go.Proofs.Tryz.func82 (congrArg some (Eq.refl (Body.n143 splitR)))
 f146 := Eq.trans Go.Proofs.Tryz.func23 (congrArg some (Eq.refl (Body.n146 splitR)))
 f195 := Eq.trans Go.Proofs.Tryz.func101 (congrArg some (Eq.refl (Body.n195 splitR)))
 f197 := Eq.trans Go.Proofs.Tryz.func102 (congrArg some (Eq.refl (Body.n197 splitR)))
 f217 := Eq.trans Go.Proofs.Tryz.func115 (congrArg some (Eq.refl (Body.n217 splitR)))
 f218 := Eq.trans Go.Proofs.Tryz.func103 (congrArg some (Eq.refl (Body.n218 splitR)))
 f219 := Eq.trans Go.Proofs.Tryz.func104 (congrArg some (Eq.refl (Body.n219 splitR)))
 f221 := Eq.trans Go.Proofs.Tryz.func51 (congrArg some (Eq.refl (Body.n221 splitR)))
 f224 := Eq.trans Go.Proofs.Tryz.func117 (congrArg some (Eq.refl (Body.n224 splitR)))
 f225 := Eq.trans Go.Proofs.Tryz.func116 (congrArg some (Eq.refl (Body.n225 splitR)))
 f260 := Eq.trans Go.Proofs.Tryz.func114 (congrArg some (Eq.refl (Body.n260 splitR)))
 f266 := Eq.trans Go.Proofs.Tryz.func130 (congrArg some (Eq.refl (Body.n266 splitR)))
 f267 := Eq.trans Go.Proofs.Tryz.func118 (congrArg some (Eq.refl (Body.n267 splitR)))
 f268 := Eq.trans Go.Proofs.Tryz.func80 (congrArg some (Eq.refl (Body.n268 splitR)))
 f314 := Eq.trans Go.Proofs.Tryz.func131 (congrArg some (Eq.refl (Body.n314 splitR)))
 t0 := Go.Proofs.Tryz.underlying0
 a0 := Go.Proofs.Tryz.isAgg0
 z0 := Go.Proofs.Tryz.sizeOf0
 v0 := Go.Proofs.Tryz.zeroValue0
 t3 := Go.Proofs.Tryz.underlying3
 a3 := Go.Proofs.Tryz.isAgg3
 z3 := Go.Proofs.Tryz.sizeOf3
 v3 := Go.Proofs.Tryz.zeroValue3
 t4 := Go.Proofs.Tryz.underlying4
 a4 := Go.Proofs.Tryz.isAgg4
 z4 := Go.Proofs.Tryz.sizeOf4
 v4 := Go.Proofs.Tryz.zeroValue4
 t5 := Go.Proofs.Tryz.underlying5
 a5 := Go.Proofs.Tryz.isAgg5
 z5 := Go.Proofs.Tryz.sizeOf5
 v5 := Go.Proofs.Tryz.zeroValue5
 t9 := Go.Proofs.Tryz.underlying9
 a9 := Go.Proofs.Tryz.isAgg9
 z9 := Go.Proofs.Tryz.sizeOf9
 v9 := Go.Proofs.Tryz.zeroValue9
 t21 := Go.Proofs.Tryz.underlying21
 a21 := Go.Proofs.Tryz.isAgg21
 z21 := Go.Proofs.Tryz.sizeOf21
 v21 := Go.Proofs.Tryz.zeroValue21
 t31 := Go.Proofs.Tryz.underlying24
 a31 := Go.Proofs.Tryz.isAgg24
 z31 := Go.Proofs.Tryz.sizeOf24
 v31 := Go.Proofs.Tryz.zeroValue24
 t46 := Go.Proofs.Tryz.underlying142
 a46 := Go.Proofs.Tryz.isAgg142
 z46 := Go.Proofs.Tryz.sizeOf142
 v46 := Go.Proofs.Tryz.zeroValue142
 t51 := Go.Proofs.Tryz.underlying178
 a51 := Go.Proofs.Tryz.isAgg178
 z51 := Go.Proofs.Tryz.sizeOf178
 v51 := Go.Proofs.Tryz.zeroValue178
 t105 := Go.Proofs.Tryz.underlying152
 a105 := Go.Proofs.Tryz.isAgg152
 z105 := Go.Proofs.Tryz.sizeOf152
 v105 := Go.Proofs.Tryz.zeroValue152
 t119 := Go.Proofs.Tryz.underlying174
 a119 := Go.Proofs.Tryz.isAgg174
 z119 := Go.Proofs.Tryz.sizeOf174
 t138 := Go.Proofs.Tryz.underlying176
 a138 := Go.Proofs.Tryz.isAgg176
 z138 := Go.Proofs.Tryz.sizeOf176
 v138 := Go.Proofs.Tryz.zeroValue176
 t139 := Go.Proofs.Tryz.underlying177
 a139 := Go.Proofs.Tryz.isAgg177
 z139 := Go.Proofs.Tryz.sizeOf177
 v139 := Go.Proofs.Tryz.zeroValue177
 t146 := Go.Proofs.Tryz.underlying179
 a146 := Go.Proofs.Tryz.isAgg179
 z146 := Go.Proofs.Tryz.sizeOf179
 v146 := Go.Proofs.Tryz.zeroValue179
 g1 := by kernel_rfl
 g3 := by kernel_rfl
 g4 := by kernel_rfl
theorem split_i9 : (Go.Proofs.Tryz.prog.info? (splitR.t 9)).map (fun i => (i.zero, i.size, i.bytes)) = some (some (.string ByteArray.empty), 1, 16) := by kernel_rfl
theorem split_calls (s : ByteArray) (c : UInt8) (w : World) (hs : s.size < 4294967281) :
  Calls Go.Proofs.Tryz.prog 23 #[.string s, .string ⟨#[c]⟩] w fun e w' => e = .returned (.slice (some ⟨w.heap.size, 0, none⟩) (Lib.countB s ⟨#[c]⟩ + 1) (Lib.countB s ⟨#[c]⟩ + 1)) ∧ w' = w.alloc (.cells ((Lib.splitB ⟨#[c]⟩ 0 (Lib.countB s ⟨#[c]⟩) s).map Value.string).toArray (splitR.t 9)) := by
 have L := splitLays
 have h1 : 1 ≤ (ByteArray.mk #[c]).size := Nat.le_refl 1
 have hle := Lib.countB_le ⟨#[c]⟩ h1 s.size s (Nat.le_refl _)
 have hlen := Lib.splitB_all ⟨#[c]⟩ h1 0 _ s rfl
 have cc := Any.strings_genSplit_core { L with } split_i9 s ⟨#[c]⟩ 0 (-1) (Lib.countB s ⟨#[c]⟩ + 1) w hs h1 (Nat.zero_le _)
  (fun x ce hx => (Any.strings_Index_one { L with } x c _).mono fun e w' ⟨he, hw⟩ => ⟨by rw [he]; show _ = Ending.returned (Value.int .i64 (Lib.index x.data.toList [c])); rw [Lib.index_one], hw⟩)
  ((Any.strings_Count_one { L with } s c w).mono fun e w' ⟨he, hw⟩ => ⟨by rw [he]; show _ = Ending.returned (Value.int .i64 ((Lib.count s.data.toList [c] : Nat) : Int)); rw [Lib.count_one]; rfl, hw⟩)
  (by decide) (by decide) (by rw [if_pos (by decide)]; omega)
 rw [Nat.add_sub_cancel, hlen] at cc
 have e2 : Lib.cellsOf (Lib.splitB ⟨#[c]⟩ 0 (Lib.countB s ⟨#[c]⟩) s) (Lib.countB s ⟨#[c]⟩ + 1) = ((Lib.splitB ⟨#[c]⟩ 0 (Lib.countB s ⟨#[c]⟩) s).map Value.string).toArray := by rw [← hlen]; exact Lib.cellsOf_full _
 rw [e2] at cc
 have t3 := L.t3; have t9 := L.t9; have t31 := L.t31
 have a3 := L.a3; have a9 := L.a9; have a31 := L.a31
 have z3 := L.z3; have v3 := L.v3; have z9 := L.z9; have v9 := L.v9; have z31 := L.z31; have v31 := L.v31
 have e221 : ∀ args w, (callFunc (splitR.f 221) args).run Go.Proofs.Tryz.prog w = .ok (.enter (splitR.f 221) args) w := enters_of L.f221 (by kernel_rfl) rfl
 show Calls Go.Proofs.Tryz.prog (splitR.f 146) _ _ _
 go_enter L.f146, Body.n146_ntmps splitR
 go_wp2_with (go_at_fn (splitR.f 221); refine cc.mono ?_; rintro e w' ⟨rfl, hw⟩; rw [hw])
 go_ret
 exact ⟨rfl, rfl⟩
end Go.Proofs.YtimadphjdkjgaaaGreatDoor.Aev
