import Derived.Test.YtimadphjdkjgaaaDoorProg
import Derived.Test.YtimadphjdkjgaaaDoorAevY
import Derived.Test.YtimadphjdkjgaaaDoorAevZ
import Derived.Shelf.Strings.Split
import Derived.WalkKit
import Derived.Below
/- strings.Split: the library's own contract, for this program (the numbers: by a program of this session). -/
namespace Go.Proofs.YtimadphjdkjgaaaDoor.Aev
set_option linter.unusedVariables false
set_option linter.unusedSimpArgs false
set_option maxRecDepth 100000
set_option maxHeartbeats 4000000
open Go
open Go.Shelf Go.RowKit
def splitR : Ren where
 f := fun x => match x with | 146 => 23 | 221 => 34 | 268 => 47 | 138 => 48 | 143 => 49 | 195 => 58 | 197 => 59 | 218 => 60 | 219 => 61 | 260 => 68 | 217 => 69 | 225 => 70 | 224 => 71 | 267 => 72 | 266 => 79 | 314 => 80 | n => n
 t := fun x => match x with | 9 => 9 | 31 => 23 | 3 => 3 | 4 => 4 | 0 => 0 | 105 => 109 | 21 => 21 | 5 => 5 | 46 => 121 | 119 => 129 | 139 => 132 | 138 => 131 | 146 => 134 | 51 => 133 | n => n
 g := fun x => match x with | 1 => 0 | 3 => 1 | 4 => 2 | n => n
theorem splitLays : Lays.n146 Go.Proofs.Tryd.prog splitR where
 mixed := Eq.refl true
 f138 := Eq.trans Go.Proofs.Tryd.func48 (congrArg some (Eq.refl (Body.n138 splitR)))
 f143 := Eq.trans Go.Proofs.Tryd.func49 (congrArg some (Eq.refl (Body.n143 splitR)))
 f146 := Eq.trans Go.Proofs.Tryd.func23 (congrArg some (Eq.refl (Body.n146 splitR)))
 f195 := Eq.trans Go.Proofs.Tryd.func58 (congrArg some (Eq.refl (Body.n195 splitR)))
 f197 := Eq.trans Go.Proofs.Tryd.func59 (congrArg some (Eq.refl (Body.n197 splitR)))
 f217 := Eq.trans Go.Proofs.Tryd.func69 (congrArg some (Eq.refl (Body.n217 splitR)))
 f218 := Eq.trans Go.Proofs.Tryd.func60 (congrArg some (Eq.refl (Body.n218 splitR)))
 f219 := Eq.trans Go.Proofs.Tryd.func61 (congrArg some (Eq.refl (Body.n219 splitR)))
 f221 := Eq.trans Go.Proofs.Tryd.func34 (congrArg some (Eq.refl (Body.n221 splitR)))
 f224 := Eq.trans Go.Proofs.Tryd.func71 (congrArg some (Eq.refl (Body.n224 splitR)))
 f225 := Eq.trans Go.Proofs.Tryd.func70 (congrArg some (Eq.refl (Body.n225 splitR)))
 f260 := Eq.trans Go.Proofs.Tryd.func68 (congrArg some (Eq.refl (Body.n260 splitR)))
 f266 := Eq.trans Go.Proofs.Tryd.func79 (congrArg some (Eq.refl (Body.n266 splitR)))
 f267 := Eq.trans Go.Proofs.Tryd.func72 (congrArg some (Eq.refl (Body.n267 splitR)))
 f268 := Eq.trans Go.Proofs.Tryd.func47 (congrArg some (Eq.refl (Body.n268 splitR)))
 f314 := Eq.trans Go.Proofs.Tryd.func80 (congrArg some (Eq.refl (Body.n314 splitR)))
 t0 := Go.Proofs.Tryd.underlying0
 a0 := Go.Proofs.Tryd.isAgg0
 z0 := Go.Proofs.Tryd.sizeOf0
 v0 := Go.Proofs.Tryd.zeroValue0
 t3 := Go.Proofs.Tryd.underlying3
 a3 := Go.Proofs.Tryd.isAgg3
 z3 := Go.Proofs.Tryd.sizeOf3
 v3 := Go.Proofs.Tryd.zeroValue3
 t4 := Go.Proofs.Tryd.underlying4
 a4 := Go.Proofs.Tryd.isAgg4
 z4 := Go.Proofs.Tryd.sizeOf4
 v4 := Go.Proofs.Tryd.zeroValue4
 t5 := Go.Proofs.Tryd.underlying5
 a5 := Go.Proofs.Tryd.isAgg5
 z5 := Go.Proofs.Tryd.sizeOf5
 v5 := Go.Proofs.Tryd.zeroValue5
 t9 := Go.Proofs.Tryd.underlying9
 a9 := Go.Proofs.Tryd.isAgg9
 z9 := Go.Proofs.Tryd.sizeOf9
 v9 := Go.Proofs.Tryd.zeroValue9
 t21 := Go.Proofs.Tryd.underlying21
 a21 := Go.Proofs.Tryd.isAgg21
 z21 := Go.Proofs.Tryd.sizeOf21
 v21 := Go.Proofs.Tryd.zeroValue21
 t31 := Go.Proofs.Tryd.underlying23
 a31 := Go.Proofs.Tryd.isAgg23
 z31 := Go.Proofs.Tryd.sizeOf23
 v31 := Go.Proofs.Tryd.zeroValue23
 t46 := Go.Proofs.Tryd.underlying121
 a46 := Go.Proofs.Tryd.isAgg121
 z46 := Go.Proofs.Tryd.sizeOf121
 v46 := Go.Proofs.Tryd.zeroValue121
 t51 := Go.Proofs.Tryd.underlying133
 a51 := Go.Proofs.Tryd.isAgg133
 z51 := Go.Proofs.Tryd.sizeOf133
 v51 := Go.Proofs.Tryd.zeroValue133
 t105 := Go.Proofs.Tryd.underlying109
 a105 := Go.Proofs.Tryd.isAgg109
 z105 := Go.Proofs.Tryd.sizeOf109
 v105 := Go.Proofs.Tryd.zeroValue109
 t119 := Go.Proofs.Tryd.underlying129
 a119 := Go.Proofs.Tryd.isAgg129
 z119 := Go.Proofs.Tryd.sizeOf129
 t138 := Go.Proofs.Tryd.underlying131
 a138 := Go.Proofs.Tryd.isAgg131
 z138 := Go.Proofs.Tryd.sizeOf131
 v138 := Go.Proofs.Tryd.zeroValue131
 t139 := Go.Proofs.Tryd.underlying132
 a139 := Go.Proofs.Tryd.isAgg132
 z139 := Go.Proofs.Tryd.sizeOf132
 v139 := Go.Proofs.Tryd.zeroValue132
 t146 := Go.Proofs.Tryd.underlying134
 a146 := Go.Proofs.Tryd.isAgg134
 z146 := Go.Proofs.Tryd.sizeOf134
 v146 := Go.Proofs.Tryd.zeroValue134
 g1 := by kernel_rfl
 g3 := by kernel_rfl
 g4 := by kernel_rfl
theorem split_i9 : (Go.Proofs.Tryd.prog.info? (splitR.t 9)).map (fun i => (i.zero, i.size, i.bytes)) = some (some (.string ByteArray.empty), 1, 16) := by kernel_rfl
theorem split_calls (s : ByteArray) (c : UInt8) (w : World) (hs : s.size < 4294967281) :
  Calls Go.Proofs.Tryd.prog 23 #[.string s, .string ⟨#[c]⟩] w fun e w' => e = .returned (.slice (some ⟨w.heap.size, 0, none⟩) (Lib.countB s ⟨#[c]⟩ + 1) (Lib.countB s ⟨#[c]⟩ + 1)) ∧ w' = w.alloc (.cells ((Lib.splitB ⟨#[c]⟩ 0 (Lib.countB s ⟨#[c]⟩) s).map Value.string).toArray (splitR.t 9)) := by
 have L := splitLays
 have h1 : 1 ≤ (ByteArray.mk #[c]).size := Nat.le_refl 1
 have hle := Lib.countB_le ⟨#[c]⟩ h1 s.size s (Nat.le_refl _)
 have hlen := Lib.splitB_all ⟨#[c]⟩ h1 0 _ s rfl
 have cc := Any.strings_genSplit_core { L with } split_i9 s ⟨#[c]⟩ 0 (-1) (Lib.countB s ⟨#[c]⟩ + 1) w hs h1 (Nat.zero_le _)
  (fun x ce hx => (Any.strings_Index_one { L with } x c _).mono fun e w' ⟨he, hw⟩ => ⟨by rw [he]; show _ = Ending.returned (Value.int .i64 (Lib.index x.data.toList [c])); rw [Lib.index_one], hw⟩)
  ((Any.strings_Count_one { L with } s c w).mono fun e w' ⟨he, hw⟩ => ⟨by rw [he]; show _ = Ending.returned (Value.int .i64 ((Lib.count s.data.toList [c] : Nat) : Int)); rw [Lib.count_one]; rfl, hw⟩)
  (by decide) (by decide) (by rw [if_pos (by decide)]; omega)
 rw [Nat.add_sub_cancel, hlen] at cc
 have e2 : Lib.cellsOf (Lib.splitB ⟨#[c]⟩ 0 (Lib.countB s ⟨#[c]⟩) s) (Lib.countB s ⟨#[c]⟩ + 1) = ((Lib.splitB ⟨#[c]⟩ 0 (Lib.countB s ⟨#[c]⟩) s).map Value.string).toArray := by rw [← hlen]; exact Lib.cellsOf_full _
 rw [e2] at cc
 have t3 := L.t3; have t9 := L.t9; have t31 := L.t31
 have a3 := L.a3; have a9 := L.a9; have a31 := L.a31
 have z3 := L.z3; have v3 := L.v3; have z9 := L.z9; have v9 := L.v9; have z31 := L.z31; have v31 := L.v31
 have e221 : ∀ args w, (callFunc (splitR.f 221) args).run Go.Proofs.Tryd.prog w = .ok (.enter (splitR.f 221) args) w := enters_of L.f221 (by kernel_rfl) rfl
 show Calls Go.Proofs.Tryd.prog (splitR.f 146) _ _ _
 go_enter L.f146, Body.n146_ntmps splitR
 go_wp2_with (go_at_fn (splitR.f 221); refine cc.mono ?_; rintro e w' ⟨rfl, hw⟩; rw [hw])
 go_ret
 exact ⟨rfl, rfl⟩
end Go.Proofs.YtimadphjdkjgaaaDoor.Aev
