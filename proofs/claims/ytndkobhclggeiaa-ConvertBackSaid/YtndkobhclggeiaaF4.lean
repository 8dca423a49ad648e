/- By a program of this session (AEV): functions of the program as plain functions, and that the machine does what they say. -/
import Derived.Test.YtndkobhclggeiaaAevW
import Derived.Test.YtndkobhclggeiaaProg
import Derived.Laws.Externs
import Derived.Lib.Bytealg
import Derived.Test.YtndkobhclggeiaaF1
import Derived.Test.YtndkobhclggeiaaF2
namespace Go.Proofs.Ytndkobhclggeiaa.Aev
set_option linter.unusedVariables false
set_option linter.unusedSimpArgs false
set_option maxRecDepth 100000
set_option maxHeartbeats 4000000
open Go
/-! ### convert_Number: function 14 -/
def ct_convert_Number (g : ByteArray → Option (Int × Int)) : Ct where
  nin := 0
  mv := []
  F := fun tvs blks {β} K => match tvs, blks with
    | [.v (.one (.d .str a0))], [] => (g a0).bind fun r => K ⟨.tup [(.one (.d (.int .i64) r.1)), (.one (.d (.int .i64) r.2))], []⟩
    | _, _ => none
  legit := fun tvs blks K r h => by
    split at h
    · obtain ⟨x, hx, hk⟩ := Option.bind_eq_some_iff.1 h
      refine ⟨_, ?_, hk⟩
      simp only [hx, Option.bind_some]
    · simp at h
def seg_convert_Number_0 (g : ByteArray → ByteArray → Bool → Option (Int × Int)) : Seg where
  path := [1, 0, 1, 1]
  prep := []
  keep := [0, 4, 16]
  F := fun tvs blks {β} K => match tvs, blks with
    | [.v (.one (.d .str x0)), .v (.one (.d .str x1)), .v (.one (.d .bool x2))], [] => (g x0 x1 x2).bind fun r => K ⟨.tup [(.one (.d (.int .i64) r.1)), (.one (.d (.int .i64) r.2))], []⟩
    | _, _ => none
  legit := fun tvs blks K r h => by
    split at h
    · obtain ⟨x, hx, hk⟩ := Option.bind_eq_some_iff.1 h
      refine ⟨_, ?_, hk⟩
      simp only [hx, Option.bind_some]
    · simp at h
def seg_convert_Number_1 (g : ByteArray → ByteArray → Option (Int × Int)) : Seg where
  path := [1, 1, 1]
  prep := []
  keep := [0, 4]
  F := fun tvs blks {β} K => match tvs, blks with
    | [.v (.one (.d .str x0)), .v (.one (.d .str x1))], [] => (g x0 x1).bind fun r => K ⟨.tup [(.one (.d (.int .i64) r.1)), (.one (.d (.int .i64) r.2))], []⟩
    | _, _ => none
  legit := fun tvs blks K r h => by
    split at h
    · obtain ⟨x, hx, hk⟩ := Option.bind_eq_some_iff.1 h
      refine ⟨_, ?_, hk⟩
      simp only [hx, Option.bind_some]
    · simp at h
def seg_convert_Number_2 (g : ByteArray → ByteArray → Int → (List Int) → Int → Int → Option (Int × Int)) : Seg where
  path := [4, 1, 0, 1, 1, 1, 1, 1]
  prep := []
  keep := [0, 4, 5, 23, 24, 25]
  F := fun tvs blks {β} K => match tvs, blks with
    | [.v (.one (.d .str x0)), .v (.one (.d .str x1)), .v (.one (.d (.int .u64) x2)), .v (.one (.d (.sl (.int .u8)) x3)), .v (.one (.d (.int .i64) x4)), .v (.one (.d (.int .i64) x5))], [] => (g x0 x1 x2 x3 x4 x5).bind fun r => K ⟨.tup [(.one (.d (.int .i64) r.1)), (.one (.d (.int .i64) r.2))], []⟩
    | _, _ => none
  legit := fun tvs blks K r h => by
    split at h
    · obtain ⟨x, hx, hk⟩ := Option.bind_eq_some_iff.1 h
      refine ⟨_, ?_, hk⟩
      simp only [hx, Option.bind_some]
    · simp at h
def seg_convert_Number_3 (g : ByteArray → ByteArray → Int → Int → (List Int) → Int → Int → Bool → Option (Int × Int)) : Seg where
  path := [1, 0, 1, 4, 0, 1, 1, 5, 4, 1, 0, 1, 1, 1, 1, 1]
  prep := []
  keep := [0, 4, 5, 7, 23, 24, 25, 34]
  F := fun tvs blks {β} K => match tvs, blks with
    | [.v (.one (.d .str x0)), .v (.one (.d .str x1)), .v (.one (.d (.int .u64) x2)), .v (.one (.d (.int .u8) x3)), .v (.one (.d (.sl (.int .u8)) x4)), .v (.one (.d (.int .i64) x5)), .v (.one (.d (.int .i64) x6)), .v (.one (.d .bool x7))], [] => (g x0 x1 x2 x3 x4 x5 x6 x7).bind fun r => K ⟨.tup [(.one (.d (.int .i64) r.1)), (.one (.d (.int .i64) r.2))], []⟩
    | _, _ => none
  legit := fun tvs blks K r h => by
    split at h
    · obtain ⟨x, hx, hk⟩ := Option.bind_eq_some_iff.1 h
      refine ⟨_, ?_, hk⟩
      simp only [hx, Option.bind_some]
    · simp at h
def seg_convert_Number_4 (g : ByteArray → ByteArray → Int → Int → (List Int) → Int → Int → Option (Int × Int)) : Seg where
  path := [1, 1, 4, 0, 1, 1, 5, 4, 1, 0, 1, 1, 1, 1, 1]
  prep := []
  keep := [0, 4, 5, 7, 23, 24, 25]
  F := fun tvs blks {β} K => match tvs, blks with
    | [.v (.one (.d .str x0)), .v (.one (.d .str x1)), .v (.one (.d (.int .u64) x2)), .v (.one (.d (.int .u8) x3)), .v (.one (.d (.sl (.int .u8)) x4)), .v (.one (.d (.int .i64) x5)), .v (.one (.d (.int .i64) x6))], [] => (g x0 x1 x2 x3 x4 x5 x6).bind fun r => K ⟨.tup [(.one (.d (.int .i64) r.1)), (.one (.d (.int .i64) r.2))], []⟩
    | _, _ => none
  legit := fun tvs blks K r h => by
    split at h
    · obtain ⟨x, hx, hk⟩ := Option.bind_eq_some_iff.1 h
      refine ⟨_, ?_, hk⟩
      simp only [hx, Option.bind_some]
    · simp at h
def seg_convert_Number_5 (g : ByteArray → ByteArray → Int → (List Int) → Int → Int → Option (Int × Int)) : Seg where
  path := [1, 1, 1, 5, 4, 1, 0, 1, 1, 1, 1, 1]
  prep := []
  keep := [0, 4, 5, 23, 24, 25]
  F := fun tvs blks {β} K => match tvs, blks with
    | [.v (.one (.d .str x0)), .v (.one (.d .str x1)), .v (.one (.d (.int .u64) x2)), .v (.one (.d (.sl (.int .u8)) x3)), .v (.one (.d (.int .i64) x4)), .v (.one (.d (.int .i64) x5))], [] => (g x0 x1 x2 x3 x4 x5).bind fun r => K ⟨.tup [(.one (.d (.int .i64) r.1)), (.one (.d (.int .i64) r.2))], []⟩
    | _, _ => none
  legit := fun tvs blks K r h => by
    split at h
    · obtain ⟨x, hx, hk⟩ := Option.bind_eq_some_iff.1 h
      refine ⟨_, ?_, hk⟩
      simp only [hx, Option.bind_some]
    · simp at h
noncomputable def env_convert_Number (g16 : Int → Option ByteArray) (s0 : ByteArray → ByteArray → Bool → Option (Int × Int)) (s1 : ByteArray → ByteArray → Option (Int × Int)) (s2 : ByteArray → ByteArray → Int → (List Int) → Int → Int → Option (Int × Int)) (s3 : ByteArray → ByteArray → Int → Int → (List Int) → Int → Int → Bool → Option (Int × Int)) (s4 : ByteArray → ByteArray → Int → Int → (List Int) → Int → Int → Option (Int × Int)) (s5 : ByteArray → ByteArray → Int → (List Int) → Int → Int → Option (Int × Int)) : FEnv := { P := Go.Proofs.Try.prog, ct := fun m => if m = 16 then some (ct_convert_Digits g16) else none, N := 57, body := Go.Proofs.Try.f14.body.getD .skip, rvs := [.tmp 2, .tmp 3], rts := [3, 27], nin := 0, rmv := [], segs := [seg_convert_Number_0 s0, seg_convert_Number_1 s1, seg_convert_Number_2 s2, seg_convert_Number_3 s3, seg_convert_Number_4 s4, seg_convert_Number_5 s5] }
def convert_Number.c {β : Type} (g16 : Int → Option ByteArray) (s0 : ByteArray → ByteArray → Bool → Option (Int × Int)) (s1 : ByteArray → ByteArray → Option (Int × Int)) (s2 : ByteArray → ByteArray → Int → (List Int) → Int → Int → Option (Int × Int)) (s3 : ByteArray → ByteArray → Int → Int → (List Int) → Int → Int → Bool → Option (Int × Int)) (s4 : ByteArray → ByteArray → Int → Int → (List Int) → Int → Int → Option (Int × Int)) (s5 : ByteArray → ByteArray → Int → (List Int) → Int → Int → Option (Int × Int)) (a0 : ByteArray) (ret : (Int × Int) → Option β) : Option β := (bif (!((ByteArray.toList a0) == (ByteArray.toList (ByteArray.mk (List.toArray []))))) then (bif (true && (decide ((0 : Int) < ((ByteArray.size a0) : Int)))) then ((s0 a0 a0 ((bt a0 (0 : Int)) == (45 : Int))).bind ret) else none) else ((s0 a0 a0 false).bind ret))
def convert_Number.s0c {β : Type} (g16 : Int → Option ByteArray) (s0 : ByteArray → ByteArray → Bool → Option (Int × Int)) (s1 : ByteArray → ByteArray → Option (Int × Int)) (s2 : ByteArray → ByteArray → Int → (List Int) → Int → Int → Option (Int × Int)) (s3 : ByteArray → ByteArray → Int → Int → (List Int) → Int → Int → Bool → Option (Int × Int)) (s4 : ByteArray → ByteArray → Int → Int → (List Int) → Int → Int → Option (Int × Int)) (s5 : ByteArray → ByteArray → Int → (List Int) → Int → Int → Option (Int × Int)) (x0 : ByteArray) (x1 : ByteArray) (x2 : Bool) (ret : (Int × Int) → Option β) : Option β := (bif x2 then (bif ((true && (decide ((1 : Int) ≤ ((ByteArray.size x0) : Int)))) && (decide (((ByteArray.size x0) : Int) ≤ ((ByteArray.size x0) : Int)))) then ((s1 x0 (ByteArray.extract x0 (1 : Nat) (Int.toNat ((ByteArray.size x0) : Int)))).bind ret) else none) else ((s1 x0 x1).bind ret))
def convert_Number.s1c {β : Type} (g16 : Int → Option ByteArray) (s0 : ByteArray → ByteArray → Bool → Option (Int × Int)) (s1 : ByteArray → ByteArray → Option (Int × Int)) (s2 : ByteArray → ByteArray → Int → (List Int) → Int → Int → Option (Int × Int)) (s3 : ByteArray → ByteArray → Int → Int → (List Int) → Int → Int → Bool → Option (Int × Int)) (s4 : ByteArray → ByteArray → Int → Int → (List Int) → Int → Int → Option (Int × Int)) (s5 : ByteArray → ByteArray → Int → (List Int) → Int → Int → Option (Int × Int)) (x0 : ByteArray) (x1 : ByteArray) (ret : (Int × Int) → Option β) : Option β := (bif (decide (((ByteArray.size x1) : Int) ≥ (20 : Int))) then (ret ((0 : Int), (7 : Int))) else ((s2 x0 x1 (0 : Int) (List.map (fun b => ((UInt8.toNat b) : Int)) (Array.toList (ByteArray.data x1))) ((List.length (List.map (fun b => ((UInt8.toNat b) : Int)) (Array.toList (ByteArray.data x1)))) : Int) (0 : Int)).bind ret))
def convert_Number.s2c {β : Type} (g16 : Int → Option ByteArray) (s0 : ByteArray → ByteArray → Bool → Option (Int × Int)) (s1 : ByteArray → ByteArray → Option (Int × Int)) (s2 : ByteArray → ByteArray → Int → (List Int) → Int → Int → Option (Int × Int)) (s3 : ByteArray → ByteArray → Int → Int → (List Int) → Int → Int → Bool → Option (Int × Int)) (s4 : ByteArray → ByteArray → Int → Int → (List Int) → Int → Int → Option (Int × Int)) (s5 : ByteArray → ByteArray → Int → (List Int) → Int → Int → Option (Int × Int)) (x0 : ByteArray) (x1 : ByteArray) (x2 : Int) (x3 : List Int) (x4 : Int) (x5 : Int) (ret : (Int × Int) → Option β) : Option β := (bif (decide (x5 < x4)) then (bif ((decide ((0 : Int) ≤ x5)) && (decide (x5 < ((List.length x3) : Int)))) then (bif (decide ((elem (Ty.int IntKind.u8) x3 x5) < (48 : Int))) then ((s3 x0 x1 x2 (elem (Ty.int IntKind.u8) x3 x5) x3 x4 x5 true).bind ret) else ((s3 x0 x1 x2 (elem (Ty.int IntKind.u8) x3 x5) x3 x4 x5 (decide ((elem (Ty.int IntKind.u8) x3 x5) > (57 : Int)))).bind ret)) else none) else (bif (decide (((ByteArray.size x1) : Int) < ((ByteArray.size x0) : Int))) then ((g16 (IntKind.wrap IntKind.i64 (IntKind.wrap IntKind.u64 ((0 : Int) - x2)))).bind fun r0 => (bif (!((ByteArray.toList r0) == (ByteArray.toList x0))) then (ret ((0 : Int), (7 : Int))) else (ret ((IntKind.wrap IntKind.i64 (IntKind.wrap IntKind.u64 ((0 : Int) - x2))), (0 : Int))))) else ((g16 (IntKind.wrap IntKind.i64 x2)).bind fun r1 => (bif (!((ByteArray.toList r1) == (ByteArray.toList x0))) then (ret ((0 : Int), (7 : Int))) else (ret ((IntKind.wrap IntKind.i64 x2), (0 : Int)))))))
def convert_Number.s3c {β : Type} (g16 : Int → Option ByteArray) (s0 : ByteArray → ByteArray → Bool → Option (Int × Int)) (s1 : ByteArray → ByteArray → Option (Int × Int)) (s2 : ByteArray → ByteArray → Int → (List Int) → Int → Int → Option (Int × Int)) (s3 : ByteArray → ByteArray → Int → Int → (List Int) → Int → Int → Bool → Option (Int × Int)) (s4 : ByteArray → ByteArray → Int → Int → (List Int) → Int → Int → Option (Int × Int)) (s5 : ByteArray → ByteArray → Int → (List Int) → Int → Int → Option (Int × Int)) (x0 : ByteArray) (x1 : ByteArray) (x2 : Int) (x3 : Int) (x4 : List Int) (x5 : Int) (x6 : Int) (x7 : Bool) (ret : (Int × Int) → Option β) : Option β := (bif x7 then (ret ((0 : Int), (7 : Int))) else ((s4 x0 x1 x2 x3 x4 x5 x6).bind ret))
def convert_Number.s4c {β : Type} (g16 : Int → Option ByteArray) (s0 : ByteArray → ByteArray → Bool → Option (Int × Int)) (s1 : ByteArray → ByteArray → Option (Int × Int)) (s2 : ByteArray → ByteArray → Int → (List Int) → Int → Int → Option (Int × Int)) (s3 : ByteArray → ByteArray → Int → Int → (List Int) → Int → Int → Bool → Option (Int × Int)) (s4 : ByteArray → ByteArray → Int → Int → (List Int) → Int → Int → Option (Int × Int)) (s5 : ByteArray → ByteArray → Int → (List Int) → Int → Int → Option (Int × Int)) (x0 : ByteArray) (x1 : ByteArray) (x2 : Int) (x3 : Int) (x4 : List Int) (x5 : Int) (x6 : Int) (ret : (Int × Int) → Option β) : Option β := ((s5 x0 x1 (IntKind.wrap IntKind.u64 ((IntKind.wrap IntKind.u64 (x2 * (10 : Int))) + (IntKind.wrap IntKind.u64 (IntKind.wrap IntKind.u8 (x3 - (48 : Int)))))) x4 x5 x6).bind ret)
def convert_Number.s5c {β : Type} (g16 : Int → Option ByteArray) (s0 : ByteArray → ByteArray → Bool → Option (Int × Int)) (s1 : ByteArray → ByteArray → Option (Int × Int)) (s2 : ByteArray → ByteArray → Int → (List Int) → Int → Int → Option (Int × Int)) (s3 : ByteArray → ByteArray → Int → Int → (List Int) → Int → Int → Bool → Option (Int × Int)) (s4 : ByteArray → ByteArray → Int → Int → (List Int) → Int → Int → Option (Int × Int)) (s5 : ByteArray → ByteArray → Int → (List Int) → Int → Int → Option (Int × Int)) (x0 : ByteArray) (x1 : ByteArray) (x2 : Int) (x3 : List Int) (x4 : Int) (x5 : Int) (ret : (Int × Int) → Option β) : Option β := ((s2 x0 x1 x2 x3 x4 (IntKind.wrap IntKind.i64 (x5 + (1 : Int)))).bind ret)
theorem convert_Number.c_bind {β : Type} (g16 : Int → Option ByteArray) (s0 : ByteArray → ByteArray → Bool → Option (Int × Int)) (s1 : ByteArray → ByteArray → Option (Int × Int)) (s2 : ByteArray → ByteArray → Int → (List Int) → Int → Int → Option (Int × Int)) (s3 : ByteArray → ByteArray → Int → Int → (List Int) → Int → Int → Bool → Option (Int × Int)) (s4 : ByteArray → ByteArray → Int → Int → (List Int) → Int → Int → Option (Int × Int)) (s5 : ByteArray → ByteArray → Int → (List Int) → Int → Int → Option (Int × Int)) (a0 : ByteArray) (ret : (Int × Int) → Option β) : convert_Number.c g16 s0 s1 s2 s3 s4 s5 a0 ret = (convert_Number.c g16 s0 s1 s2 s3 s4 s5 a0 some).bind ret := by
  simp only [convert_Number.c, bif_bind, sum_bind, Option.bind_assoc, Option.bind_some, Option.bind_none, Option.bind_fun_some]
theorem convert_Number.s0c_bind {β : Type} (g16 : Int → Option ByteArray) (s0 : ByteArray → ByteArray → Bool → Option (Int × Int)) (s1 : ByteArray → ByteArray → Option (Int × Int)) (s2 : ByteArray → ByteArray → Int → (List Int) → Int → Int → Option (Int × Int)) (s3 : ByteArray → ByteArray → Int → Int → (List Int) → Int → Int → Bool → Option (Int × Int)) (s4 : ByteArray → ByteArray → Int → Int → (List Int) → Int → Int → Option (Int × Int)) (s5 : ByteArray → ByteArray → Int → (List Int) → Int → Int → Option (Int × Int)) (x0 : ByteArray) (x1 : ByteArray) (x2 : Bool) (ret : (Int × Int) → Option β) : convert_Number.s0c g16 s0 s1 s2 s3 s4 s5 x0 x1 x2 ret = (convert_Number.s0c g16 s0 s1 s2 s3 s4 s5 x0 x1 x2 some).bind ret := by
  simp only [convert_Number.s0c, bif_bind, sum_bind, Option.bind_assoc, Option.bind_some, Option.bind_none, Option.bind_fun_some]
theorem convert_Number.s1c_bind {β : Type} (g16 : Int → Option ByteArray) (s0 : ByteArray → ByteArray → Bool → Option (Int × Int)) (s1 : ByteArray → ByteArray → Option (Int × Int)) (s2 : ByteArray → ByteArray → Int → (List Int) → Int → Int → Option (Int × Int)) (s3 : ByteArray → ByteArray → Int → Int → (List Int) → Int → Int → Bool → Option (Int × Int)) (s4 : ByteArray → ByteArray → Int → Int → (List Int) → Int → Int → Option (Int × Int)) (s5 : ByteArray → ByteArray → Int → (List Int) → Int → Int → Option (Int × Int)) (x0 : ByteArray) (x1 : ByteArray) (ret : (Int × Int) → Option β) : convert_Number.s1c g16 s0 s1 s2 s3 s4 s5 x0 x1 ret = (convert_Number.s1c g16 s0 s1 s2 s3 s4 s5 x0 x1 some).bind ret := by
  simp only [convert_Number.s1c, bif_bind, sum_bind, Option.bind_assoc, Option.bind_some, Option.bind_none, Option.bind_fun_some]
theorem convert_Number.s2c_bind {β : Type} (g16 : Int → Option ByteArray) (s0 : ByteArray → ByteArray → Bool → Option (Int × Int)) (s1 : ByteArray → ByteArray → Option (Int × Int)) (s2 : ByteArray → ByteArray → Int → (List Int) → Int → Int → Option (Int × Int)) (s3 : ByteArray → ByteArray → Int → Int → (List Int) → Int → Int → Bool → Option (Int × Int)) (s4 : ByteArray → ByteArray → Int → Int → (List Int) → Int → Int → Option (Int × Int)) (s5 : ByteArray → ByteArray → Int → (List Int) → Int → Int → Option (Int × Int)) (x0 : ByteArray) (x1 : ByteArray) (x2 : Int) (x3 : List Int) (x4 : Int) (x5 : Int) (ret : (Int × Int) → Option β) : convert_Number.s2c g16 s0 s1 s2 s3 s4 s5 x0 x1 x2 x3 x4 x5 ret = (convert_Number.s2c g16 s0 s1 s2 s3 s4 s5 x0 x1 x2 x3 x4 x5 some).bind ret := by
  simp only [convert_Number.s2c, bif_bind, sum_bind, Option.bind_assoc, Option.bind_some, Option.bind_none, Option.bind_fun_some]
theorem convert_Number.s3c_bind {β : Type} (g16 : Int → Option ByteArray) (s0 : ByteArray → ByteArray → Bool → Option (Int × Int)) (s1 : ByteArray → ByteArray → Option (Int × Int)) (s2 : ByteArray → ByteArray → Int → (List Int) → Int → Int → Option (Int × Int)) (s3 : ByteArray → ByteArray → Int → Int → (List Int) → Int → Int → Bool → Option (Int × Int)) (s4 : ByteArray → ByteArray → Int → Int → (List Int) → Int → Int → Option (Int × Int)) (s5 : ByteArray → ByteArray → Int → (List Int) → Int → Int → Option (Int × Int)) (x0 : ByteArray) (x1 : ByteArray) (x2 : Int) (x3 : Int) (x4 : List Int) (x5 : Int) (x6 : Int) (x7 : Bool) (ret : (Int × Int) → Option β) : convert_Number.s3c g16 s0 s1 s2 s3 s4 s5 x0 x1 x2 x3 x4 x5 x6 x7 ret = (convert_Number.s3c g16 s0 s1 s2 s3 s4 s5 x0 x1 x2 x3 x4 x5 x6 x7 some).bind ret := by
  simp only [convert_Number.s3c, bif_bind, sum_bind, Option.bind_assoc, Option.bind_some, Option.bind_none, Option.bind_fun_some]
theorem convert_Number.s4c_bind {β : Type} (g16 : Int → Option ByteArray) (s0 : ByteArray → ByteArray → Bool → Option (Int × Int)) (s1 : ByteArray → ByteArray → Option (Int × Int)) (s2 : ByteArray → ByteArray → Int → (List Int) → Int → Int → Option (Int × Int)) (s3 : ByteArray → ByteArray → Int → Int → (List Int) → Int → Int → Bool → Option (Int × Int)) (s4 : ByteArray → ByteArray → Int → Int → (List Int) → Int → Int → Option (Int × Int)) (s5 : ByteArray → ByteArray → Int → (List Int) → Int → Int → Option (Int × Int)) (x0 : ByteArray) (x1 : ByteArray) (x2 : Int) (x3 : Int) (x4 : List Int) (x5 : Int) (x6 : Int) (ret : (Int × Int) → Option β) : convert_Number.s4c g16 s0 s1 s2 s3 s4 s5 x0 x1 x2 x3 x4 x5 x6 ret = (convert_Number.s4c g16 s0 s1 s2 s3 s4 s5 x0 x1 x2 x3 x4 x5 x6 some).bind ret := by
  simp only [convert_Number.s4c, bif_bind, sum_bind, Option.bind_assoc, Option.bind_some, Option.bind_none, Option.bind_fun_some]
theorem convert_Number.s5c_bind {β : Type} (g16 : Int → Option ByteArray) (s0 : ByteArray → ByteArray → Bool → Option (Int × Int)) (s1 : ByteArray → ByteArray → Option (Int × Int)) (s2 : ByteArray → ByteArray → Int → (List Int) → Int → Int → Option (Int × Int)) (s3 : ByteArray → ByteArray → Int → Int → (List Int) → Int → Int → Bool → Option (Int × Int)) (s4 : ByteArray → ByteArray → Int → Int → (List Int) → Int → Int → Option (Int × Int)) (s5 : ByteArray → ByteArray → Int → (List Int) → Int → Int → Option (Int × Int)) (x0 : ByteArray) (x1 : ByteArray) (x2 : Int) (x3 : List Int) (x4 : Int) (x5 : Int) (ret : (Int × Int) → Option β) : convert_Number.s5c g16 s0 s1 s2 s3 s4 s5 x0 x1 x2 x3 x4 x5 ret = (convert_Number.s5c g16 s0 s1 s2 s3 s4 s5 x0 x1 x2 x3 x4 x5 some).bind ret := by
  simp only [convert_Number.s5c, bif_bind, sum_bind, Option.bind_assoc, Option.bind_some, Option.bind_none, Option.bind_fun_some]
theorem convert_Number.ev (g16 : Int → Option ByteArray) (s0 : ByteArray → ByteArray → Bool → Option (Int × Int)) (s1 : ByteArray → ByteArray → Option (Int × Int)) (s2 : ByteArray → ByteArray → Int → (List Int) → Int → Int → Option (Int × Int)) (s3 : ByteArray → ByteArray → Int → Int → (List Int) → Int → Int → Bool → Option (Int × Int)) (s4 : ByteArray → ByteArray → Int → Int → (List Int) → Int → Int → Option (Int × Int)) (s5 : ByteArray → ByteArray → Int → (List Int) → Int → Int → Option (Int × Int)) (a0 : ByteArray) : evAt (env_convert_Number g16 s0 s1 s2 s3 s4 s5) [] [0] [.v (.one (.d .str a0))] [] some = convert_Number.c g16 s0 s1 s2 s3 s4 s5 a0 (fun r => some ⟨.tup [(.one (.d (.int .i64) r.1)), (.one (.d (.int .i64) r.2))], []⟩) := by
  kernel_rfl
theorem convert_Number.s0_ev (g16 : Int → Option ByteArray) (s0 : ByteArray → ByteArray → Bool → Option (Int × Int)) (s1 : ByteArray → ByteArray → Option (Int × Int)) (s2 : ByteArray → ByteArray → Int → (List Int) → Int → Int → Option (Int × Int)) (s3 : ByteArray → ByteArray → Int → Int → (List Int) → Int → Int → Bool → Option (Int × Int)) (s4 : ByteArray → ByteArray → Int → Int → (List Int) → Int → Int → Option (Int × Int)) (s5 : ByteArray → ByteArray → Int → (List Int) → Int → Int → Option (Int × Int)) (x0 : ByteArray) (x1 : ByteArray) (x2 : Bool) : evAt (env_convert_Number g16 s0 s1 s2 s3 s4 s5) [1, 0, 1, 1] [0, 4, 16] [.v (.one (.d .str x0)), .v (.one (.d .str x1)), .v (.one (.d .bool x2))] [] some = convert_Number.s0c g16 s0 s1 s2 s3 s4 s5 x0 x1 x2 (fun r => some ⟨.tup [(.one (.d (.int .i64) r.1)), (.one (.d (.int .i64) r.2))], []⟩) := by
  kernel_rfl
theorem convert_Number.s1_ev (g16 : Int → Option ByteArray) (s0 : ByteArray → ByteArray → Bool → Option (Int × Int)) (s1 : ByteArray → ByteArray → Option (Int × Int)) (s2 : ByteArray → ByteArray → Int → (List Int) → Int → Int → Option (Int × Int)) (s3 : ByteArray → ByteArray → Int → Int → (List Int) → Int → Int → Bool → Option (Int × Int)) (s4 : ByteArray → ByteArray → Int → Int → (List Int) → Int → Int → Option (Int × Int)) (s5 : ByteArray → ByteArray → Int → (List Int) → Int → Int → Option (Int × Int)) (x0 : ByteArray) (x1 : ByteArray) : evAt (env_convert_Number g16 s0 s1 s2 s3 s4 s5) [1, 1, 1] [0, 4] [.v (.one (.d .str x0)), .v (.one (.d .str x1))] [] some = convert_Number.s1c g16 s0 s1 s2 s3 s4 s5 x0 x1 (fun r => some ⟨.tup [(.one (.d (.int .i64) r.1)), (.one (.d (.int .i64) r.2))], []⟩) := by
  kernel_rfl
theorem convert_Number.s2_ev (g16 : Int → Option ByteArray) (s0 : ByteArray → ByteArray → Bool → Option (Int × Int)) (s1 : ByteArray → ByteArray → Option (Int × Int)) (s2 : ByteArray → ByteArray → Int → (List Int) → Int → Int → Option (Int × Int)) (s3 : ByteArray → ByteArray → Int → Int → (List Int) → Int → Int → Bool → Option (Int × Int)) (s4 : ByteArray → ByteArray → Int → Int → (List Int) → Int → Int → Option (Int × Int)) (s5 : ByteArray → ByteArray → Int → (List Int) → Int → Int → Option (Int × Int)) (x0 : ByteArray) (x1 : ByteArray) (x2 : Int) (x3 : List Int) (x4 : Int) (x5 : Int) : evAt (env_convert_Number g16 s0 s1 s2 s3 s4 s5) [4, 1, 0, 1, 1, 1, 1, 1] [0, 4, 5, 23, 24, 25] [.v (.one (.d .str x0)), .v (.one (.d .str x1)), .v (.one (.d (.int .u64) x2)), .v (.one (.d (.sl (.int .u8)) x3)), .v (.one (.d (.int .i64) x4)), .v (.one (.d (.int .i64) x5))] [] some = convert_Number.s2c g16 s0 s1 s2 s3 s4 s5 x0 x1 x2 x3 x4 x5 (fun r => some ⟨.tup [(.one (.d (.int .i64) r.1)), (.one (.d (.int .i64) r.2))], []⟩) := by
  kernel_rfl
theorem convert_Number.s3_ev (g16 : Int → Option ByteArray) (s0 : ByteArray → ByteArray → Bool → Option (Int × Int)) (s1 : ByteArray → ByteArray → Option (Int × Int)) (s2 : ByteArray → ByteArray → Int → (List Int) → Int → Int → Option (Int × Int)) (s3 : ByteArray → ByteArray → Int → Int → (List Int) → Int → Int → Bool → Option (Int × Int)) (s4 : ByteArray → ByteArray → Int → Int → (List Int) → Int → Int → Option (Int × Int)) (s5 : ByteArray → ByteArray → Int → (List Int) → Int → Int → Option (Int × Int)) (x0 : ByteArray) (x1 : ByteArray) (x2 : Int) (x3 : Int) (x4 : List Int) (x5 : Int) (x6 : Int) (x7 : Bool) : evAt (env_convert_Number g16 s0 s1 s2 s3 s4 s5) [1, 0, 1, 4, 0, 1, 1, 5, 4, 1, 0, 1, 1, 1, 1, 1] [0, 4, 5, 7, 23, 24, 25, 34] [.v (.one (.d .str x0)), .v (.one (.d .str x1)), .v (.one (.d (.int .u64) x2)), .v (.one (.d (.int .u8) x3)), .v (.one (.d (.sl (.int .u8)) x4)), .v (.one (.d (.int .i64) x5)), .v (.one (.d (.int .i64) x6)), .v (.one (.d .bool x7))] [] some = convert_Number.s3c g16 s0 s1 s2 s3 s4 s5 x0 x1 x2 x3 x4 x5 x6 x7 (fun r => some ⟨.tup [(.one (.d (.int .i64) r.1)), (.one (.d (.int .i64) r.2))], []⟩) := by
  kernel_rfl
theorem convert_Number.s4_ev (g16 : Int → Option ByteArray) (s0 : ByteArray → ByteArray → Bool → Option (Int × Int)) (s1 : ByteArray → ByteArray → Option (Int × Int)) (s2 : ByteArray → ByteArray → Int → (List Int) → Int → Int → Option (Int × Int)) (s3 : ByteArray → ByteArray → Int → Int → (List Int) → Int → Int → Bool → Option (Int × Int)) (s4 : ByteArray → ByteArray → Int → Int → (List Int) → Int → Int → Option (Int × Int)) (s5 : ByteArray → ByteArray → Int → (List Int) → Int → Int → Option (Int × Int)) (x0 : ByteArray) (x1 : ByteArray) (x2 : Int) (x3 : Int) (x4 : List Int) (x5 : Int) (x6 : Int) : evAt (env_convert_Number g16 s0 s1 s2 s3 s4 s5) [1, 1, 4, 0, 1, 1, 5, 4, 1, 0, 1, 1, 1, 1, 1] [0, 4, 5, 7, 23, 24, 25] [.v (.one (.d .str x0)), .v (.one (.d .str x1)), .v (.one (.d (.int .u64) x2)), .v (.one (.d (.int .u8) x3)), .v (.one (.d (.sl (.int .u8)) x4)), .v (.one (.d (.int .i64) x5)), .v (.one (.d (.int .i64) x6))] [] some = convert_Number.s4c g16 s0 s1 s2 s3 s4 s5 x0 x1 x2 x3 x4 x5 x6 (fun r => some ⟨.tup [(.one (.d (.int .i64) r.1)), (.one (.d (.int .i64) r.2))], []⟩) := by
  kernel_rfl
theorem convert_Number.s5_ev (g16 : Int → Option ByteArray) (s0 : ByteArray → ByteArray → Bool → Option (Int × Int)) (s1 : ByteArray → ByteArray → Option (Int × Int)) (s2 : ByteArray → ByteArray → Int → (List Int) → Int → Int → Option (Int × Int)) (s3 : ByteArray → ByteArray → Int → Int → (List Int) → Int → Int → Bool → Option (Int × Int)) (s4 : ByteArray → ByteArray → Int → Int → (List Int) → Int → Int → Option (Int × Int)) (s5 : ByteArray → ByteArray → Int → (List Int) → Int → Int → Option (Int × Int)) (x0 : ByteArray) (x1 : ByteArray) (x2 : Int) (x3 : List Int) (x4 : Int) (x5 : Int) : evAt (env_convert_Number g16 s0 s1 s2 s3 s4 s5) [1, 1, 1, 5, 4, 1, 0, 1, 1, 1, 1, 1] [0, 4, 5, 23, 24, 25] [.v (.one (.d .str x0)), .v (.one (.d .str x1)), .v (.one (.d (.int .u64) x2)), .v (.one (.d (.sl (.int .u8)) x3)), .v (.one (.d (.int .i64) x4)), .v (.one (.d (.int .i64) x5))] [] some = convert_Number.s5c g16 s0 s1 s2 s3 s4 s5 x0 x1 x2 x3 x4 x5 (fun r => some ⟨.tup [(.one (.d (.int .i64) r.1)), (.one (.d (.int .i64) r.2))], []⟩) := by
  kernel_rfl
mutual
def convert_Number.s0 : Nat → ByteArray → ByteArray → Bool → Option (Int × Int)
  | 0, _, _, _ => none
  | k + 1, x0, x1, x2 => convert_Number.s0c (convert_Digits.f k) (convert_Number.s0 k) (convert_Number.s1 k) (convert_Number.s2 k) (convert_Number.s3 k) (convert_Number.s4 k) (convert_Number.s5 k) x0 x1 x2 some
def convert_Number.s1 : Nat → ByteArray → ByteArray → Option (Int × Int)
  | 0, _, _ => none
  | k + 1, x0, x1 => convert_Number.s1c (convert_Digits.f k) (convert_Number.s0 k) (convert_Number.s1 k) (convert_Number.s2 k) (convert_Number.s3 k) (convert_Number.s4 k) (convert_Number.s5 k) x0 x1 some
def convert_Number.s2 : Nat → ByteArray → ByteArray → Int → (List Int) → Int → Int → Option (Int × Int)
  | 0, _, _, _, _, _, _ => none
  | k + 1, x0, x1, x2, x3, x4, x5 => convert_Number.s2c (convert_Digits.f k) (convert_Number.s0 k) (convert_Number.s1 k) (convert_Number.s2 k) (convert_Number.s3 k) (convert_Number.s4 k) (convert_Number.s5 k) x0 x1 x2 x3 x4 x5 some
def convert_Number.s3 : Nat → ByteArray → ByteArray → Int → Int → (List Int) → Int → Int → Bool → Option (Int × Int)
  | 0, _, _, _, _, _, _, _, _ => none
  | k + 1, x0, x1, x2, x3, x4, x5, x6, x7 => convert_Number.s3c (convert_Digits.f k) (convert_Number.s0 k) (convert_Number.s1 k) (convert_Number.s2 k) (convert_Number.s3 k) (convert_Number.s4 k) (convert_Number.s5 k) x0 x1 x2 x3 x4 x5 x6 x7 some
def convert_Number.s4 : Nat → ByteArray → ByteArray → Int → Int → (List Int) → Int → Int → Option (Int × Int)
  | 0, _, _, _, _, _, _, _ => none
  | k + 1, x0, x1, x2, x3, x4, x5, x6 => convert_Number.s4c (convert_Digits.f k) (convert_Number.s0 k) (convert_Number.s1 k) (convert_Number.s2 k) (convert_Number.s3 k) (convert_Number.s4 k) (convert_Number.s5 k) x0 x1 x2 x3 x4 x5 x6 some
def convert_Number.s5 : Nat → ByteArray → ByteArray → Int → (List Int) → Int → Int → Option (Int × Int)
  | 0, _, _, _, _, _, _ => none
  | k + 1, x0, x1, x2, x3, x4, x5 => convert_Number.s5c (convert_Digits.f k) (convert_Number.s0 k) (convert_Number.s1 k) (convert_Number.s2 k) (convert_Number.s3 k) (convert_Number.s4 k) (convert_Number.s5 k) x0 x1 x2 x3 x4 x5 some
end
def convert_Number.f (k : Nat) (a0 : ByteArray) : Option (Int × Int) := convert_Number.c (convert_Digits.f k) (convert_Number.s0 k) (convert_Number.s1 k) (convert_Number.s2 k) (convert_Number.s3 k) (convert_Number.s4 k) (convert_Number.s5 k) a0 some
theorem convert_Number.is (g16 : Int → Option ByteArray) (s0 : ByteArray → ByteArray → Bool → Option (Int × Int)) (s1 : ByteArray → ByteArray → Option (Int × Int)) (s2 : ByteArray → ByteArray → Int → (List Int) → Int → Int → Option (Int × Int)) (s3 : ByteArray → ByteArray → Int → Int → (List Int) → Int → Int → Bool → Option (Int × Int)) (s4 : ByteArray → ByteArray → Int → Int → (List Int) → Int → Int → Option (Int × Int)) (s5 : ByteArray → ByteArray → Int → (List Int) → Int → Int → Option (Int × Int)) : FnIs (env_convert_Number g16 s0 s1 s2 s3 s4 s5) 14 Go.Proofs.Try.f14 := ⟨Go.Proofs.Try.func14, rfl, rfl, rfl, by decide⟩
theorem convert_Number.envok (g16 : Int → Option ByteArray) (s0 : ByteArray → ByteArray → Bool → Option (Int × Int)) (s1 : ByteArray → ByteArray → Option (Int × Int)) (s2 : ByteArray → ByteArray → Int → (List Int) → Int → Int → Option (Int × Int)) (s3 : ByteArray → ByteArray → Int → Int → (List Int) → Int → Int → Bool → Option (Int × Int)) (s4 : ByteArray → ByteArray → Int → Int → (List Int) → Int → Int → Option (Int × Int)) (s5 : ByteArray → ByteArray → Int → (List Int) → Int → Int → Option (Int × Int)) (h16 : CtOK Go.Proofs.Try.prog 16 (ct_convert_Digits g16)) : EnvOK (env_convert_Number g16 s0 s1 s2 s3 s4 s5).toEnv := by
  intro f c h
  simp only [env_convert_Number] at h
  split at h
  · rename_i e; subst e; cases h; exact h16
  simp at h
theorem convert_Number.segs_ok : ∀ k, ∀ s ∈ (env_convert_Number (convert_Digits.f k) (convert_Number.s0 k) (convert_Number.s1 k) (convert_Number.s2 k) (convert_Number.s3 k) (convert_Number.s4 k) (convert_Number.s5 k)).segs, SegOK (env_convert_Number (convert_Digits.f k) (convert_Number.s0 k) (convert_Number.s1 k) (convert_Number.s2 k) (convert_Number.s3 k) (convert_Number.s4 k) (convert_Number.s5 k)) Go.Proofs.Try.f14 s
  | 0 => by
    intro s hs
    simp only [env_convert_Number, List.mem_cons, List.not_mem_nil, or_false] at hs
    rcases hs with rfl | rfl | rfl | rfl | rfl | rfl
    · intro tvs blks res h; exfalso; simp only [seg_convert_Number_0] at h; split at h <;> simp [convert_Number.s0] at h
    · intro tvs blks res h; exfalso; simp only [seg_convert_Number_1] at h; split at h <;> simp [convert_Number.s1] at h
    · intro tvs blks res h; exfalso; simp only [seg_convert_Number_2] at h; split at h <;> simp [convert_Number.s2] at h
    · intro tvs blks res h; exfalso; simp only [seg_convert_Number_3] at h; split at h <;> simp [convert_Number.s3] at h
    · intro tvs blks res h; exfalso; simp only [seg_convert_Number_4] at h; split at h <;> simp [convert_Number.s4] at h
    · intro tvs blks res h; exfalso; simp only [seg_convert_Number_5] at h; split at h <;> simp [convert_Number.s5] at h
  | k + 1 => by
    have ih := convert_Number.segs_ok k
    intro s hs
    simp only [env_convert_Number, List.mem_cons, List.not_mem_nil, or_false] at hs
    rcases hs with rfl | rfl | rfl | rfl | rfl | rfl
    · refine seg_of_ev (E := env_convert_Number (convert_Digits.f k) (convert_Number.s0 k) (convert_Number.s1 k) (convert_Number.s2 k) (convert_Number.s3 k) (convert_Number.s4 k) (convert_Number.s5 k)) (convert_Number.envok _ _ _ _ _ _ _  (convert_Digits.ok k)) ⟨(convert_Number.is (convert_Digits.f k) (convert_Number.s0 k) (convert_Number.s1 k) (convert_Number.s2 k) (convert_Number.s3 k) (convert_Number.s4 k) (convert_Number.s5 k)).rvs⟩ ih ?_
      intro tvs blks res h
      simp only [seg_convert_Number_0] at h
      split at h
      · refine (convert_Number.s0_ev (convert_Digits.f k) (convert_Number.s0 k) (convert_Number.s1 k) (convert_Number.s2 k) (convert_Number.s3 k) (convert_Number.s4 k) (convert_Number.s5 k) _ _ _ ).trans ?_
        rw [convert_Number.s0c_bind]
        exact h
      · simp at h
    · refine seg_of_ev (E := env_convert_Number (convert_Digits.f k) (convert_Number.s0 k) (convert_Number.s1 k) (convert_Number.s2 k) (convert_Number.s3 k) (convert_Number.s4 k) (convert_Number.s5 k)) (convert_Number.envok _ _ _ _ _ _ _  (convert_Digits.ok k)) ⟨(convert_Number.is (convert_Digits.f k) (convert_Number.s0 k) (convert_Number.s1 k) (convert_Number.s2 k) (convert_Number.s3 k) (convert_Number.s4 k) (convert_Number.s5 k)).rvs⟩ ih ?_
      intro tvs blks res h
      simp only [seg_convert_Number_1] at h
      split at h
      · refine (convert_Number.s1_ev (convert_Digits.f k) (convert_Number.s0 k) (convert_Number.s1 k) (convert_Number.s2 k) (convert_Number.s3 k) (convert_Number.s4 k) (convert_Number.s5 k) _ _ ).trans ?_
        rw [convert_Number.s1c_bind]
        exact h
      · simp at h
    · refine seg_of_ev (E := env_convert_Number (convert_Digits.f k) (convert_Number.s0 k) (convert_Number.s1 k) (convert_Number.s2 k) (convert_Number.s3 k) (convert_Number.s4 k) (convert_Number.s5 k)) (convert_Number.envok _ _ _ _ _ _ _  (convert_Digits.ok k)) ⟨(convert_Number.is (convert_Digits.f k) (convert_Number.s0 k) (convert_Number.s1 k) (convert_Number.s2 k) (convert_Number.s3 k) (convert_Number.s4 k) (convert_Number.s5 k)).rvs⟩ ih ?_
      intro tvs blks res h
      simp only [seg_convert_Number_2] at h
      split at h
      · refine (convert_Number.s2_ev (convert_Digits.f k) (convert_Number.s0 k) (convert_Number.s1 k) (convert_Number.s2 k) (convert_Number.s3 k) (convert_Number.s4 k) (convert_Number.s5 k) _ _ _ _ _ _ ).trans ?_
        rw [convert_Number.s2c_bind]
        exact h
      · simp at h
    · refine seg_of_ev (E := env_convert_Number (convert_Digits.f k) (convert_Number.s0 k) (convert_Number.s1 k) (convert_Number.s2 k) (convert_Number.s3 k) (convert_Number.s4 k) (convert_Number.s5 k)) (convert_Number.envok _ _ _ _ _ _ _  (convert_Digits.ok k)) ⟨(convert_Number.is (convert_Digits.f k) (convert_Number.s0 k) (convert_Number.s1 k) (convert_Number.s2 k) (convert_Number.s3 k) (convert_Number.s4 k) (convert_Number.s5 k)).rvs⟩ ih ?_
      intro tvs blks res h
      simp only [seg_convert_Number_3] at h
      split at h
      · refine (convert_Number.s3_ev (convert_Digits.f k) (convert_Number.s0 k) (convert_Number.s1 k) (convert_Number.s2 k) (convert_Number.s3 k) (convert_Number.s4 k) (convert_Number.s5 k) _ _ _ _ _ _ _ _ ).trans ?_
        rw [convert_Number.s3c_bind]
        exact h
      · simp at h
    · refine seg_of_ev (E := env_convert_Number (convert_Digits.f k) (convert_Number.s0 k) (convert_Number.s1 k) (convert_Number.s2 k) (convert_Number.s3 k) (convert_Number.s4 k) (convert_Number.s5 k)) (convert_Number.envok _ _ _ _ _ _ _  (convert_Digits.ok k)) ⟨(convert_Number.is (convert_Digits.f k) (convert_Number.s0 k) (convert_Number.s1 k) (convert_Number.s2 k) (convert_Number.s3 k) (convert_Number.s4 k) (convert_Number.s5 k)).rvs⟩ ih ?_
      intro tvs blks res h
      simp only [seg_convert_Number_4] at h
      split at h
      · refine (convert_Number.s4_ev (convert_Digits.f k) (convert_Number.s0 k) (convert_Number.s1 k) (convert_Number.s2 k) (convert_Number.s3 k) (convert_Number.s4 k) (convert_Number.s5 k) _ _ _ _ _ _ _ ).trans ?_
        rw [convert_Number.s4c_bind]
        exact h
      · simp at h
    · refine seg_of_ev (E := env_convert_Number (convert_Digits.f k) (convert_Number.s0 k) (convert_Number.s1 k) (convert_Number.s2 k) (convert_Number.s3 k) (convert_Number.s4 k) (convert_Number.s5 k)) (convert_Number.envok _ _ _ _ _ _ _  (convert_Digits.ok k)) ⟨(convert_Number.is (convert_Digits.f k) (convert_Number.s0 k) (convert_Number.s1 k) (convert_Number.s2 k) (convert_Number.s3 k) (convert_Number.s4 k) (convert_Number.s5 k)).rvs⟩ ih ?_
      intro tvs blks res h
      simp only [seg_convert_Number_5] at h
      split at h
      · refine (convert_Number.s5_ev (convert_Digits.f k) (convert_Number.s0 k) (convert_Number.s1 k) (convert_Number.s2 k) (convert_Number.s3 k) (convert_Number.s4 k) (convert_Number.s5 k) _ _ _ _ _ _ ).trans ?_
        rw [convert_Number.s5c_bind]
        exact h
      · simp at h
theorem convert_Number.ok (k : Nat) : CtOK Go.Proofs.Try.prog 14 (ct_convert_Number (convert_Number.f k)) := by
  refine ct_of_ev (E := env_convert_Number (convert_Digits.f k) (convert_Number.s0 k) (convert_Number.s1 k) (convert_Number.s2 k) (convert_Number.s3 k) (convert_Number.s4 k) (convert_Number.s5 k)) (convert_Number.is _ _ _ _ _ _ _ ) (convert_Number.envok _ _ _ _ _ _ _  (convert_Digits.ok k)) (convert_Number.segs_ok k) rfl ?_
  intro tvs blks res h
  simp only [ct_convert_Number] at h
  split at h
  · refine (convert_Number.ev (convert_Digits.f k) (convert_Number.s0 k) (convert_Number.s1 k) (convert_Number.s2 k) (convert_Number.s3 k) (convert_Number.s4 k) (convert_Number.s5 k) _ ).trans ?_
    rw [convert_Number.c_bind]
    exact h
  · simp at h

/-! ### convert_ofText: function 27 -/
def ct_convert_ofText (g : ByteArray → Int → Option ((Int × Int × Int × ByteArray) ⊕ Int)) : Ct where
  nin := 0
  mv := []
  F := fun tvs blks {β} K => match tvs, blks with
    | [.v (.one (.d .str a0)), .v (.one (.d (.int .i64) a1))], [] => (g a0 a1).bind fun r => Sum.elim (fun r => K ⟨.v (.one (.fn 39 [(0, 0)])), [some (.box [(.d (.int .i64) r.1), (.d (.int .i64) r.2.1), (.d (.int .u64) r.2.2.1), (.d .str r.2.2.2)])]⟩) (fun r => K ⟨.v (.one (.fn 38 [(0, 0)])), [some (.box [(.d (.int .i64) r)])]⟩) r
    | _, _ => none
  legit := fun tvs blks K r h => by
    split at h
    · obtain ⟨x, hx, hk⟩ := Option.bind_eq_some_iff.1 h
      rcases x with x | x <;> (simp only [Sum.elim_inl, Sum.elim_inr] at hk; exact ⟨_, by simp only [hx, Option.bind_some, Sum.elim_inl, Sum.elim_inr], hk⟩)
    · simp at h
def seg_convert_ofText_0 (g : ByteArray → Int → ByteArray → ByteArray → Int → Option ((Int × Int × Int × ByteArray) ⊕ Int)) : Seg where
  path := [4, 1, 0, 2, 1, 3, 1, 4, 1, 0, 1]
  prep := []
  keep := [0, 1, 18, 19]
  F := fun tvs blks {β} K => match tvs, blks with
    | [.v (.one (.d .str x0)), .v (.one (.d (.int .i64) x1)), .v (.agg [(.d .str x2), (.d .str x3)]), .v (.one (.d (.int .i64) x4))], [] => (g x0 x1 x2 x3 x4).bind fun r => Sum.elim (fun r => K ⟨.v (.one (.fn 39 [(0, 0)])), [some (.box [(.d (.int .i64) r.1), (.d (.int .i64) r.2.1), (.d (.int .u64) r.2.2.1), (.d .str r.2.2.2)])]⟩) (fun r => K ⟨.v (.one (.fn 38 [(0, 0)])), [some (.box [(.d (.int .i64) r)])]⟩) r
    | _, _ => none
  legit := fun tvs blks K r h => by
    split at h
    · obtain ⟨x, hx, hk⟩ := Option.bind_eq_some_iff.1 h
      rcases x with x | x <;> (simp only [Sum.elim_inl, Sum.elim_inr] at hk; exact ⟨_, by simp only [hx, Option.bind_some, Sum.elim_inl, Sum.elim_inr], hk⟩)
    · simp at h
noncomputable def env_convert_ofText (g14 : ByteArray → Option (Int × Int)) (g21 : Int → Option Int) (g22 : Int → Int → Int → ByteArray → Option (Int × Int × Int × ByteArray)) (s0 : ByteArray → Int → ByteArray → ByteArray → Int → Option ((Int × Int × Int × ByteArray) ⊕ Int)) : FEnv := { P := Go.Proofs.Try.prog, ct := fun m => if m = 14 then some (ct_convert_Number g14) else if m = 21 then some (ct_convert_refuse g21) else if m = 22 then some (ct_convert_give g22) else none, N := 45, body := Go.Proofs.Try.f27.body.getD .skip, rvs := [.tmp 4], rts := [45], nin := 0, rmv := [], segs := [seg_convert_ofText_0 s0] }
def convert_ofText.c {β : Type} (g14 : ByteArray → Option (Int × Int)) (g21 : Int → Option Int) (g22 : Int → Int → Int → ByteArray → Option (Int × Int × Int × ByteArray)) (s0 : ByteArray → Int → ByteArray → ByteArray → Int → Option ((Int × Int × Int × ByteArray) ⊕ Int)) (a0 : ByteArray) (a1 : Int) (ret : ((Int × Int × Int × ByteArray) ⊕ Int) → Option β) : Option β := (bif (a1 == (4 : Int)) then ((g22 a1 (0 : Int) (0 : Int) a0).bind fun r0 => (ret (.inl (r0.1, r0.2.1, r0.2.2.1, r0.2.2.2)))) else (bif (a1 == (1 : Int)) then ((s0 a0 a1 (ByteArray.mk (List.toArray [(102 : UInt8), (97 : UInt8), (108 : UInt8), (115 : UInt8), (101 : UInt8)])) (ByteArray.mk (List.toArray [(116 : UInt8), (114 : UInt8), (117 : UInt8), (101 : UInt8)])) (0 : Int)).bind ret) else ((g14 a0).bind fun r1 => (bif (r1.2 != (0 : Int)) then ((g21 r1.2).bind fun r2 => (ret (.inr (r2)))) else ((g22 a1 r1.1 (0 : Int) (ByteArray.mk (List.toArray []))).bind fun r3 => (ret (.inl (r3.1, r3.2.1, r3.2.2.1, r3.2.2.2))))))))
def convert_ofText.s0c {β : Type} (g14 : ByteArray → Option (Int × Int)) (g21 : Int → Option Int) (g22 : Int → Int → Int → ByteArray → Option (Int × Int × Int × ByteArray)) (s0 : ByteArray → Int → ByteArray → ByteArray → Int → Option ((Int × Int × Int × ByteArray) ⊕ Int)) (x0 : ByteArray) (x1 : Int) (x2 : ByteArray) (x3 : ByteArray) (x4 : Int) (ret : ((Int × Int × Int × ByteArray) ⊕ Int) → Option β) : Option β := (bif (decide (x4 < (2 : Int))) then (bif ((decide ((0 : Int) ≤ x4)) && (decide (x4 < (2 : Int)))) then (bif ((ByteArray.toList (bif (decide (x4 = (0 : Int))) then x2 else x3)) == (ByteArray.toList x0)) then ((g22 x1 x4 (0 : Int) (ByteArray.mk (List.toArray []))).bind fun r0 => (ret (.inl (r0.1, r0.2.1, r0.2.2.1, r0.2.2.2)))) else ((s0 x0 x1 x2 x3 (IntKind.wrap IntKind.i64 (x4 + (1 : Int)))).bind ret)) else none) else ((g21 (7 : Int)).bind fun r1 => (ret (.inr (r1)))))
theorem convert_ofText.c_bind {β : Type} (g14 : ByteArray → Option (Int × Int)) (g21 : Int → Option Int) (g22 : Int → Int → Int → ByteArray → Option (Int × Int × Int × ByteArray)) (s0 : ByteArray → Int → ByteArray → ByteArray → Int → Option ((Int × Int × Int × ByteArray) ⊕ Int)) (a0 : ByteArray) (a1 : Int) (ret : ((Int × Int × Int × ByteArray) ⊕ Int) → Option β) : convert_ofText.c g14 g21 g22 s0 a0 a1 ret = (convert_ofText.c g14 g21 g22 s0 a0 a1 some).bind ret := by
  simp only [convert_ofText.c, bif_bind, sum_bind, Option.bind_assoc, Option.bind_some, Option.bind_none, Option.bind_fun_some]
theorem convert_ofText.s0c_bind {β : Type} (g14 : ByteArray → Option (Int × Int)) (g21 : Int → Option Int) (g22 : Int → Int → Int → ByteArray → Option (Int × Int × Int × ByteArray)) (s0 : ByteArray → Int → ByteArray → ByteArray → Int → Option ((Int × Int × Int × ByteArray) ⊕ Int)) (x0 : ByteArray) (x1 : Int) (x2 : ByteArray) (x3 : ByteArray) (x4 : Int) (ret : ((Int × Int × Int × ByteArray) ⊕ Int) → Option β) : convert_ofText.s0c g14 g21 g22 s0 x0 x1 x2 x3 x4 ret = (convert_ofText.s0c g14 g21 g22 s0 x0 x1 x2 x3 x4 some).bind ret := by
  simp only [convert_ofText.s0c, bif_bind, sum_bind, Option.bind_assoc, Option.bind_some, Option.bind_none, Option.bind_fun_some]
theorem convert_ofText.ev (g14 : ByteArray → Option (Int × Int)) (g21 : Int → Option Int) (g22 : Int → Int → Int → ByteArray → Option (Int × Int × Int × ByteArray)) (s0 : ByteArray → Int → ByteArray → ByteArray → Int → Option ((Int × Int × Int × ByteArray) ⊕ Int)) (a0 : ByteArray) (a1 : Int) : evAt (env_convert_ofText g14 g21 g22 s0) [] [0, 1] [.v (.one (.d .str a0)), .v (.one (.d (.int .i64) a1))] [] some = convert_ofText.c g14 g21 g22 s0 a0 a1 (fun r => Sum.elim (fun r => some ⟨.v (.one (.fn 39 [(0, 0)])), [some (.box [(.d (.int .i64) r.1), (.d (.int .i64) r.2.1), (.d (.int .u64) r.2.2.1), (.d .str r.2.2.2)])]⟩) (fun r => some ⟨.v (.one (.fn 38 [(0, 0)])), [some (.box [(.d (.int .i64) r)])]⟩) r) := by
  kernel_rfl
theorem convert_ofText.s0_ev (g14 : ByteArray → Option (Int × Int)) (g21 : Int → Option Int) (g22 : Int → Int → Int → ByteArray → Option (Int × Int × Int × ByteArray)) (s0 : ByteArray → Int → ByteArray → ByteArray → Int → Option ((Int × Int × Int × ByteArray) ⊕ Int)) (x0 : ByteArray) (x1 : Int) (x2 : ByteArray) (x3 : ByteArray) (x4 : Int) : evAt (env_convert_ofText g14 g21 g22 s0) [4, 1, 0, 2, 1, 3, 1, 4, 1, 0, 1] [0, 1, 18, 19] [.v (.one (.d .str x0)), .v (.one (.d (.int .i64) x1)), .v (.agg [(.d .str x2), (.d .str x3)]), .v (.one (.d (.int .i64) x4))] [] some = convert_ofText.s0c g14 g21 g22 s0 x0 x1 x2 x3 x4 (fun r => Sum.elim (fun r => some ⟨.v (.one (.fn 39 [(0, 0)])), [some (.box [(.d (.int .i64) r.1), (.d (.int .i64) r.2.1), (.d (.int .u64) r.2.2.1), (.d .str r.2.2.2)])]⟩) (fun r => some ⟨.v (.one (.fn 38 [(0, 0)])), [some (.box [(.d (.int .i64) r)])]⟩) r) := by
  kernel_rfl
def convert_ofText.s0 : Nat → ByteArray → Int → ByteArray → ByteArray → Int → Option ((Int × Int × Int × ByteArray) ⊕ Int)
  | 0, _, _, _, _, _ => none
  | k + 1, x0, x1, x2, x3, x4 => convert_ofText.s0c (convert_Number.f k) (convert_refuse.f k) (convert_give.f k) (convert_ofText.s0 k) x0 x1 x2 x3 x4 some
def convert_ofText.f (k : Nat) (a0 : ByteArray) (a1 : Int) : Option ((Int × Int × Int × ByteArray) ⊕ Int) := convert_ofText.c (convert_Number.f k) (convert_refuse.f k) (convert_give.f k) (convert_ofText.s0 k) a0 a1 some
theorem convert_ofText.is (g14 : ByteArray → Option (Int × Int)) (g21 : Int → Option Int) (g22 : Int → Int → Int → ByteArray → Option (Int × Int × Int × ByteArray)) (s0 : ByteArray → Int → ByteArray → ByteArray → Int → Option ((Int × Int × Int × ByteArray) ⊕ Int)) : FnIs (env_convert_ofText g14 g21 g22 s0) 27 Go.Proofs.Try.f27 := ⟨Go.Proofs.Try.func27, rfl, rfl, rfl, by decide⟩
theorem convert_ofText.envok (g14 : ByteArray → Option (Int × Int)) (g21 : Int → Option Int) (g22 : Int → Int → Int → ByteArray → Option (Int × Int × Int × ByteArray)) (s0 : ByteArray → Int → ByteArray → ByteArray → Int → Option ((Int × Int × Int × ByteArray) ⊕ Int)) (h14 : CtOK Go.Proofs.Try.prog 14 (ct_convert_Number g14)) (h21 : CtOK Go.Proofs.Try.prog 21 (ct_convert_refuse g21)) (h22 : CtOK Go.Proofs.Try.prog 22 (ct_convert_give g22)) : EnvOK (env_convert_ofText g14 g21 g22 s0).toEnv := by
  intro f c h
  simp only [env_convert_ofText] at h
  split at h
  · rename_i e; subst e; cases h; exact h14
  split at h
  · rename_i e; subst e; cases h; exact h21
  split at h
  · rename_i e; subst e; cases h; exact h22
  simp at h
theorem convert_ofText.segs_ok : ∀ k, ∀ s ∈ (env_convert_ofText (convert_Number.f k) (convert_refuse.f k) (convert_give.f k) (convert_ofText.s0 k)).segs, SegOK (env_convert_ofText (convert_Number.f k) (convert_refuse.f k) (convert_give.f k) (convert_ofText.s0 k)) Go.Proofs.Try.f27 s
  | 0 => by
    intro s hs
    simp only [env_convert_ofText, List.mem_cons, List.not_mem_nil, or_false] at hs
    rcases hs with rfl
    · intro tvs blks res h; exfalso; simp only [seg_convert_ofText_0] at h; split at h <;> simp [convert_ofText.s0] at h
  | k + 1 => by
    have ih := convert_ofText.segs_ok k
    intro s hs
    simp only [env_convert_ofText, List.mem_cons, List.not_mem_nil, or_false] at hs
    rcases hs with rfl
    · refine seg_of_ev (E := env_convert_ofText (convert_Number.f k) (convert_refuse.f k) (convert_give.f k) (convert_ofText.s0 k)) (convert_ofText.envok _ _ _ _  (convert_Number.ok k) (convert_refuse.ok k) (convert_give.ok k)) ⟨(convert_ofText.is (convert_Number.f k) (convert_refuse.f k) (convert_give.f k) (convert_ofText.s0 k)).rvs⟩ ih ?_
      intro tvs blks res h
      simp only [seg_convert_ofText_0] at h
      split at h
      · refine (convert_ofText.s0_ev (convert_Number.f k) (convert_refuse.f k) (convert_give.f k) (convert_ofText.s0 k) _ _ _ _ _ ).trans ?_
        rw [convert_ofText.s0c_bind]
        exact h
      · simp at h
theorem convert_ofText.ok (k : Nat) : CtOK Go.Proofs.Try.prog 27 (ct_convert_ofText (convert_ofText.f k)) := by
  refine ct_of_ev (E := env_convert_ofText (convert_Number.f k) (convert_refuse.f k) (convert_give.f k) (convert_ofText.s0 k)) (convert_ofText.is _ _ _ _ ) (convert_ofText.envok _ _ _ _  (convert_Number.ok k) (convert_refuse.ok k) (convert_give.ok k)) (convert_ofText.segs_ok k) rfl ?_
  intro tvs blks res h
  simp only [ct_convert_ofText] at h
  split at h
  · refine (convert_ofText.ev (convert_Number.f k) (convert_refuse.f k) (convert_give.f k) (convert_ofText.s0 k) _ _ ).trans ?_
    rw [convert_ofText.c_bind]
    exact h
  · simp at h

/-! ### convert_refuse_1: function 38 -/
def ct_convert_refuse_1 (g : Int → Option (Int × Int × Int × ByteArray × Int × Int)) : Ct where
  nin := 1
  mv := []
  F := fun tvs blks {β} K => match tvs, blks with
    | [.v (.one (.ptr 0 0))], [.box [(.d (.int .i64) a0)]] => (g a0).bind fun r => K ⟨.tup [(.agg [(.d (.int .i64) r.1), (.d (.int .i64) r.2.1), (.d (.int .u64) r.2.2.1), (.d .str r.2.2.2.1)]), (.one (.d (.int .i64) r.2.2.2.2.1))], [some (.box [(.d (.int .i64) r.2.2.2.2.2)])]⟩
    | _, _ => none
  legit := fun tvs blks K r h => by
    split at h
    · obtain ⟨x, hx, hk⟩ := Option.bind_eq_some_iff.1 h
      refine ⟨_, ?_, hk⟩
      simp only [hx, Option.bind_some]
    · simp at h
noncomputable def env_convert_refuse_1   : FEnv := { P := Go.Proofs.Try.prog, ct := fun m => none, N := 5, body := Go.Proofs.Try.f38.body.getD .skip, rvs := [.cell 1 24, .tmp 2], rts := [24, 27], nin := 1, rmv := [], segs := [] }
def convert_refuse_1.c {β : Type}   (a0 : Int) (ret : (Int × Int × Int × ByteArray × Int × Int) → Option β) : Option β := (ret ((0 : Int), (0 : Int), (0 : Int), (ByteArray.mk (List.toArray [])), a0, a0))
theorem convert_refuse_1.c_bind {β : Type}   (a0 : Int) (ret : (Int × Int × Int × ByteArray × Int × Int) → Option β) : convert_refuse_1.c   a0 ret = (convert_refuse_1.c   a0 some).bind ret := by
  simp only [convert_refuse_1.c, bif_bind, sum_bind, Option.bind_assoc, Option.bind_some, Option.bind_none, Option.bind_fun_some]
theorem convert_refuse_1.ev   (a0 : Int) : evAt (env_convert_refuse_1  ) [] [0] [.v (.one (.ptr 0 0))] [some (.box [(.d (.int .i64) a0)])] some = convert_refuse_1.c   a0 (fun r => some ⟨.tup [(.agg [(.d (.int .i64) r.1), (.d (.int .i64) r.2.1), (.d (.int .u64) r.2.2.1), (.d .str r.2.2.2.1)]), (.one (.d (.int .i64) r.2.2.2.2.1))], [some (.box [(.d (.int .i64) r.2.2.2.2.2)])]⟩) := by
  kernel_rfl
def convert_refuse_1.f (k : Nat) (a0 : Int) : Option (Int × Int × Int × ByteArray × Int × Int) := convert_refuse_1.c   a0 some
theorem convert_refuse_1.is   : FnIs (env_convert_refuse_1  ) 38 Go.Proofs.Try.f38 := ⟨Go.Proofs.Try.func38, rfl, rfl, rfl, by decide⟩
theorem convert_refuse_1.envok    : EnvOK (env_convert_refuse_1  ).toEnv := by
  intro f c h
  simp only [env_convert_refuse_1] at h
  simp at h
theorem convert_refuse_1.ok (k : Nat) : CtOK Go.Proofs.Try.prog 38 (ct_convert_refuse_1 (convert_refuse_1.f k)) := by
  refine ct_of_ev (E := env_convert_refuse_1  ) (convert_refuse_1.is ) (convert_refuse_1.envok  ) (fun s hs => by simp [env_convert_refuse_1] at hs) rfl ?_
  intro tvs blks res h
  simp only [ct_convert_refuse_1] at h
  split at h
  · refine (convert_refuse_1.ev   _ ).trans ?_
    rw [convert_refuse_1.c_bind]
    exact h
  · simp at h
end Go.Proofs.Ytndkobhclggeiaa.Aev
