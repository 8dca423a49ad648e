/- By a program of this session (AEV): functions of the program as plain functions, and that the machine does what they say. -/
import Derived.Test.YtndkobhclggeiaaAevW
import Derived.Test.YtndkobhclggeiaaProg
import Derived.Laws.Externs
import Derived.Lib.Bytealg
import Derived.Test.YtndkobhclggeiaaF0
namespace Go.Proofs.Ytndkobhclggeiaa.Aev
set_option linter.unusedVariables false
set_option linter.unusedSimpArgs false
set_option maxRecDepth 100000
set_option maxHeartbeats 4000000
open Go
/-! ### utf_Next: function 57 -/
def ct_utf_Next (g : ByteArray → Option (Int × Int × Int)) : Ct where
  nin := 0
  mv := []
  F := fun tvs blks {β} K => match tvs, blks with
    | [.v (.one (.d .str a0))], [] => (g a0).bind fun r => K ⟨.tup [(.one (.d (.int .i64) r.1)), (.one (.d (.int .i64) r.2.1)), (.one (.d (.int .i64) r.2.2))], []⟩
    | _, _ => none
  legit := fun tvs blks K r h => by
    split at h
    · obtain ⟨x, hx, hk⟩ := Option.bind_eq_some_iff.1 h
      refine ⟨_, ?_, hk⟩
      simp only [hx, Option.bind_some]
    · simp at h
def seg_utf_Next_0 (g : ByteArray → Int → Int → Int → Int → Int → Int → Option (Int × Int × Int)) : Seg where
  path := [4, 1, 0, 1, 1, 1, 1, 1, 6, 1]
  prep := []
  keep := [0, 5, 6, 7, 8, 9, 10]
  F := fun tvs blks {β} K => match tvs, blks with
    | [.v (.one (.d .str x0)), .v (.one (.d (.int .i64) x1)), .v (.one (.d (.int .i64) x2)), .v (.one (.d (.int .u8) x3)), .v (.one (.d (.int .u8) x4)), .v (.one (.d (.int .i64) x5)), .v (.one (.d (.int .i64) x6))], [] => (g x0 x1 x2 x3 x4 x5 x6).bind fun r => K ⟨.tup [(.one (.d (.int .i64) r.1)), (.one (.d (.int .i64) r.2.1)), (.one (.d (.int .i64) r.2.2))], []⟩
    | _, _ => none
  legit := fun tvs blks K r h => by
    split at h
    · obtain ⟨x, hx, hk⟩ := Option.bind_eq_some_iff.1 h
      refine ⟨_, ?_, hk⟩
      simp only [hx, Option.bind_some]
    · simp at h
def seg_utf_Next_1 (g : ByteArray → Int → Int → Int → Int → Bool → Option (Int × Int × Int)) : Seg where
  path := [1, 3, 1, 4, 0, 4, 0, 1, 5, 4, 1, 0, 1, 1, 1, 1, 1, 6, 1]
  prep := []
  keep := [0, 5, 6, 9, 10, 33]
  F := fun tvs blks {β} K => match tvs, blks with
    | [.v (.one (.d .str x0)), .v (.one (.d (.int .i64) x1)), .v (.one (.d (.int .i64) x2)), .v (.one (.d (.int .i64) x3)), .v (.one (.d (.int .i64) x4)), .v (.one (.d .bool x5))], [] => (g x0 x1 x2 x3 x4 x5).bind fun r => K ⟨.tup [(.one (.d (.int .i64) r.1)), (.one (.d (.int .i64) r.2.1)), (.one (.d (.int .i64) r.2.2))], []⟩
    | _, _ => none
  legit := fun tvs blks K r h => by
    split at h
    · obtain ⟨x, hx, hk⟩ := Option.bind_eq_some_iff.1 h
      refine ⟨_, ?_, hk⟩
      simp only [hx, Option.bind_some]
    · simp at h
def seg_utf_Next_2 (g : ByteArray → Int → Int → Int → Int → Option (Int × Int × Int)) : Seg where
  path := [1, 4, 0, 1, 5, 4, 1, 0, 1, 1, 1, 1, 1, 6, 1]
  prep := []
  keep := [0, 5, 6, 9, 10]
  F := fun tvs blks {β} K => match tvs, blks with
    | [.v (.one (.d .str x0)), .v (.one (.d (.int .i64) x1)), .v (.one (.d (.int .i64) x2)), .v (.one (.d (.int .i64) x3)), .v (.one (.d (.int .i64) x4))], [] => (g x0 x1 x2 x3 x4).bind fun r => K ⟨.tup [(.one (.d (.int .i64) r.1)), (.one (.d (.int .i64) r.2.1)), (.one (.d (.int .i64) r.2.2))], []⟩
    | _, _ => none
  legit := fun tvs blks K r h => by
    split at h
    · obtain ⟨x, hx, hk⟩ := Option.bind_eq_some_iff.1 h
      refine ⟨_, ?_, hk⟩
      simp only [hx, Option.bind_some]
    · simp at h
def seg_utf_Next_3 (g : ByteArray → Int → Int → Int → Int → Int → Int → Option (Int × Int × Int)) : Seg where
  path := [1, 1, 5, 4, 1, 0, 1, 1, 1, 1, 1, 6, 1]
  prep := []
  keep := [0, 5, 6, 7, 8, 9, 10]
  F := fun tvs blks {β} K => match tvs, blks with
    | [.v (.one (.d .str x0)), .v (.one (.d (.int .i64) x1)), .v (.one (.d (.int .i64) x2)), .v (.one (.d (.int .u8) x3)), .v (.one (.d (.int .u8) x4)), .v (.one (.d (.int .i64) x5)), .v (.one (.d (.int .i64) x6))], [] => (g x0 x1 x2 x3 x4 x5 x6).bind fun r => K ⟨.tup [(.one (.d (.int .i64) r.1)), (.one (.d (.int .i64) r.2.1)), (.one (.d (.int .i64) r.2.2))], []⟩
    | _, _ => none
  legit := fun tvs blks K r h => by
    split at h
    · obtain ⟨x, hx, hk⟩ := Option.bind_eq_some_iff.1 h
      refine ⟨_, ?_, hk⟩
      simp only [hx, Option.bind_some]
    · simp at h
noncomputable def env_utf_Next (g61 : Int → Option (Int × Int × Int × Int)) (s0 : ByteArray → Int → Int → Int → Int → Int → Int → Option (Int × Int × Int)) (s1 : ByteArray → Int → Int → Int → Int → Bool → Option (Int × Int × Int)) (s2 : ByteArray → Int → Int → Int → Int → Option (Int × Int × Int)) (s3 : ByteArray → Int → Int → Int → Int → Int → Int → Option (Int × Int × Int)) : FEnv := { P := Go.Proofs.Try.prog, ct := fun m => if m = 61 then some (ct_utf_first g61) else none, N := 59, body := Go.Proofs.Try.f57.body.getD .skip, rvs := [.tmp 2, .tmp 3, .tmp 4], rts := [3, 3, 27], nin := 0, rmv := [], segs := [seg_utf_Next_0 s0, seg_utf_Next_1 s1, seg_utf_Next_2 s2, seg_utf_Next_3 s3] }
def utf_Next.c {β : Type} (g61 : Int → Option (Int × Int × Int × Int)) (s0 : ByteArray → Int → Int → Int → Int → Int → Int → Option (Int × Int × Int)) (s1 : ByteArray → Int → Int → Int → Int → Bool → Option (Int × Int × Int)) (s2 : ByteArray → Int → Int → Int → Int → Option (Int × Int × Int)) (s3 : ByteArray → Int → Int → Int → Int → Int → Int → Option (Int × Int × Int)) (a0 : ByteArray) (ret : (Int × Int × Int) → Option β) : Option β := (bif ((ByteArray.toList a0) == (ByteArray.toList (ByteArray.mk (List.toArray [])))) then (ret ((0 : Int), (0 : Int), (3 : Int))) else (bif (true && (decide ((0 : Int) < ((ByteArray.size a0) : Int)))) then ((g61 (bt a0 (0 : Int))).bind fun r0 => (bif (r0.1 == (0 : Int)) then (ret ((0 : Int), (0 : Int), (7 : Int))) else ((s0 a0 r0.1 r0.2.1 r0.2.2.1 r0.2.2.2 (0 : Int) (1 : Int)).bind ret))) else none))
def utf_Next.s0c {β : Type} (g61 : Int → Option (Int × Int × Int × Int)) (s0 : ByteArray → Int → Int → Int → Int → Int → Int → Option (Int × Int × Int)) (s1 : ByteArray → Int → Int → Int → Int → Bool → Option (Int × Int × Int)) (s2 : ByteArray → Int → Int → Int → Int → Option (Int × Int × Int)) (s3 : ByteArray → Int → Int → Int → Int → Int → Int → Option (Int × Int × Int)) (x0 : ByteArray) (x1 : Int) (x2 : Int) (x3 : Int) (x4 : Int) (x5 : Int) (x6 : Int) (ret : (Int × Int × Int) → Option β) : Option β := (bif (decide (x6 < x1)) then (bif (decide (x6 ≥ ((ByteArray.size x0) : Int))) then (ret ((0 : Int), (0 : Int), (3 : Int))) else (bif ((decide ((0 : Int) ≤ x6)) && (decide (x6 < ((ByteArray.size x0) : Int)))) then (bif (decide ((bt x0 x6) < x3)) then ((s1 x0 x1 x2 x5 x6 true).bind ret) else (bif ((decide ((0 : Int) ≤ x6)) && (decide (x6 < ((ByteArray.size x0) : Int)))) then ((s1 x0 x1 x2 x5 x6 (decide ((bt x0 x6) > x4))).bind ret) else none)) else none)) else (bif (x5 != (0 : Int)) then (ret ((0 : Int), (0 : Int), x5)) else (ret (x2, x1, (0 : Int)))))
def utf_Next.s1c {β : Type} (g61 : Int → Option (Int × Int × Int × Int)) (s0 : ByteArray → Int → Int → Int → Int → Int → Int → Option (Int × Int × Int)) (s1 : ByteArray → Int → Int → Int → Int → Bool → Option (Int × Int × Int)) (s2 : ByteArray → Int → Int → Int → Int → Option (Int × Int × Int)) (s3 : ByteArray → Int → Int → Int → Int → Int → Int → Option (Int × Int × Int)) (x0 : ByteArray) (x1 : Int) (x2 : Int) (x3 : Int) (x4 : Int) (x5 : Bool) (ret : (Int × Int × Int) → Option β) : Option β := (bif x5 then (ret ((0 : Int), (0 : Int), (7 : Int))) else ((s2 x0 x1 x2 x3 x4).bind ret))
def utf_Next.s2c {β : Type} (g61 : Int → Option (Int × Int × Int × Int)) (s0 : ByteArray → Int → Int → Int → Int → Int → Int → Option (Int × Int × Int)) (s1 : ByteArray → Int → Int → Int → Int → Bool → Option (Int × Int × Int)) (s2 : ByteArray → Int → Int → Int → Int → Option (Int × Int × Int)) (s3 : ByteArray → Int → Int → Int → Int → Int → Int → Option (Int × Int × Int)) (x0 : ByteArray) (x1 : Int) (x2 : Int) (x3 : Int) (x4 : Int) (ret : (Int × Int × Int) → Option β) : Option β := (bif ((decide ((0 : Int) ≤ x4)) && (decide (x4 < ((ByteArray.size x0) : Int)))) then ((s3 x0 x1 (IntKind.wrap IntKind.i64 ((BitVec.toNat ((BitVec.ofInt (64 : Nat) (IntKind.wrap IntKind.i64 (x2 * (64 : Int)))) ||| (BitVec.ofInt (64 : Nat) (IntKind.wrap IntKind.i64 (IntKind.wrap IntKind.u8 ((BitVec.toNat ((BitVec.ofInt (8 : Nat) (bt x0 x4)) &&& (BitVec.ofInt (8 : Nat) (63 : Int)))) : Int)))))) : Int)) (128 : Int) (191 : Int) x3 x4).bind ret) else none)
def utf_Next.s3c {β : Type} (g61 : Int → Option (Int × Int × Int × Int)) (s0 : ByteArray → Int → Int → Int → Int → Int → Int → Option (Int × Int × Int)) (s1 : ByteArray → Int → Int → Int → Int → Bool → Option (Int × Int × Int)) (s2 : ByteArray → Int → Int → Int → Int → Option (Int × Int × Int)) (s3 : ByteArray → Int → Int → Int → Int → Int → Int → Option (Int × Int × Int)) (x0 : ByteArray) (x1 : Int) (x2 : Int) (x3 : Int) (x4 : Int) (x5 : Int) (x6 : Int) (ret : (Int × Int × Int) → Option β) : Option β := ((s0 x0 x1 x2 x3 x4 x5 (IntKind.wrap IntKind.i64 (x6 + (1 : Int)))).bind ret)
theorem utf_Next.c_bind {β : Type} (g61 : Int → Option (Int × Int × Int × Int)) (s0 : ByteArray → Int → Int → Int → Int → Int → Int → Option (Int × Int × Int)) (s1 : ByteArray → Int → Int → Int → Int → Bool → Option (Int × Int × Int)) (s2 : ByteArray → Int → Int → Int → Int → Option (Int × Int × Int)) (s3 : ByteArray → Int → Int → Int → Int → Int → Int → Option (Int × Int × Int)) (a0 : ByteArray) (ret : (Int × Int × Int) → Option β) : utf_Next.c g61 s0 s1 s2 s3 a0 ret = (utf_Next.c g61 s0 s1 s2 s3 a0 some).bind ret := by
  simp only [utf_Next.c, bif_bind, sum_bind, Option.bind_assoc, Option.bind_some, Option.bind_none, Option.bind_fun_some]
theorem utf_Next.s0c_bind {β : Type} (g61 : Int → Option (Int × Int × Int × Int)) (s0 : ByteArray → Int → Int → Int → Int → Int → Int → Option (Int × Int × Int)) (s1 : ByteArray → Int → Int → Int → Int → Bool → Option (Int × Int × Int)) (s2 : ByteArray → Int → Int → Int → Int → Option (Int × Int × Int)) (s3 : ByteArray → Int → Int → Int → Int → Int → Int → Option (Int × Int × Int)) (x0 : ByteArray) (x1 : Int) (x2 : Int) (x3 : Int) (x4 : Int) (x5 : Int) (x6 : Int) (ret : (Int × Int × Int) → Option β) : utf_Next.s0c g61 s0 s1 s2 s3 x0 x1 x2 x3 x4 x5 x6 ret = (utf_Next.s0c g61 s0 s1 s2 s3 x0 x1 x2 x3 x4 x5 x6 some).bind ret := by
  simp only [utf_Next.s0c, bif_bind, sum_bind, Option.bind_assoc, Option.bind_some, Option.bind_none, Option.bind_fun_some]
theorem utf_Next.s1c_bind {β : Type} (g61 : Int → Option (Int × Int × Int × Int)) (s0 : ByteArray → Int → Int → Int → Int → Int → Int → Option (Int × Int × Int)) (s1 : ByteArray → Int → Int → Int → Int → Bool → Option (Int × Int × Int)) (s2 : ByteArray → Int → Int → Int → Int → Option (Int × Int × Int)) (s3 : ByteArray → Int → Int → Int → Int → Int → Int → Option (Int × Int × Int)) (x0 : ByteArray) (x1 : Int) (x2 : Int) (x3 : Int) (x4 : Int) (x5 : Bool) (ret : (Int × Int × Int) → Option β) : utf_Next.s1c g61 s0 s1 s2 s3 x0 x1 x2 x3 x4 x5 ret = (utf_Next.s1c g61 s0 s1 s2 s3 x0 x1 x2 x3 x4 x5 some).bind ret := by
  simp only [utf_Next.s1c, bif_bind, sum_bind, Option.bind_assoc, Option.bind_some, Option.bind_none, Option.bind_fun_some]
theorem utf_Next.s2c_bind {β : Type} (g61 : Int → Option (Int × Int × Int × Int)) (s0 : ByteArray → Int → Int → Int → Int → Int → Int → Option (Int × Int × Int)) (s1 : ByteArray → Int → Int → Int → Int → Bool → Option (Int × Int × Int)) (s2 : ByteArray → Int → Int → Int → Int → Option (Int × Int × Int)) (s3 : ByteArray → Int → Int → Int → Int → Int → Int → Option (Int × Int × Int)) (x0 : ByteArray) (x1 : Int) (x2 : Int) (x3 : Int) (x4 : Int) (ret : (Int × Int × Int) → Option β) : utf_Next.s2c g61 s0 s1 s2 s3 x0 x1 x2 x3 x4 ret = (utf_Next.s2c g61 s0 s1 s2 s3 x0 x1 x2 x3 x4 some).bind ret := by
  simp only [utf_Next.s2c, bif_bind, sum_bind, Option.bind_assoc, Option.bind_some, Option.bind_none, Option.bind_fun_some]
theorem utf_Next.s3c_bind {β : Type} (g61 : Int → Option (Int × Int × Int × Int)) (s0 : ByteArray → Int → Int → Int → Int → Int → Int → Option (Int × Int × Int)) (s1 : ByteArray → Int → Int → Int → Int → Bool → Option (Int × Int × Int)) (s2 : ByteArray → Int → Int → Int → Int → Option (Int × Int × Int)) (s3 : ByteArray → Int → Int → Int → Int → Int → Int → Option (Int × Int × Int)) (x0 : ByteArray) (x1 : Int) (x2 : Int) (x3 : Int) (x4 : Int) (x5 : Int) (x6 : Int) (ret : (Int × Int × Int) → Option β) : utf_Next.s3c g61 s0 s1 s2 s3 x0 x1 x2 x3 x4 x5 x6 ret = (utf_Next.s3c g61 s0 s1 s2 s3 x0 x1 x2 x3 x4 x5 x6 some).bind ret := by
  simp only [utf_Next.s3c, bif_bind, sum_bind, Option.bind_assoc, Option.bind_some, Option.bind_none, Option.bind_fun_some]
theorem utf_Next.ev (g61 : Int → Option (Int × Int × Int × Int)) (s0 : ByteArray → Int → Int → Int → Int → Int → Int → Option (Int × Int × Int)) (s1 : ByteArray → Int → Int → Int → Int → Bool → Option (Int × Int × Int)) (s2 : ByteArray → Int → Int → Int → Int → Option (Int × Int × Int)) (s3 : ByteArray → Int → Int → Int → Int → Int → Int → Option (Int × Int × Int)) (a0 : ByteArray) : evAt (env_utf_Next g61 s0 s1 s2 s3) [] [0] [.v (.one (.d .str a0))] [] some = utf_Next.c g61 s0 s1 s2 s3 a0 (fun r => some ⟨.tup [(.one (.d (.int .i64) r.1)), (.one (.d (.int .i64) r.2.1)), (.one (.d (.int .i64) r.2.2))], []⟩) := by
  kernel_rfl
theorem utf_Next.s0_ev (g61 : Int → Option (Int × Int × Int × Int)) (s0 : ByteArray → Int → Int → Int → Int → Int → Int → Option (Int × Int × Int)) (s1 : ByteArray → Int → Int → Int → Int → Bool → Option (Int × Int × Int)) (s2 : ByteArray → Int → Int → Int → Int → Option (Int × Int × Int)) (s3 : ByteArray → Int → Int → Int → Int → Int → Int → Option (Int × Int × Int)) (x0 : ByteArray) (x1 : Int) (x2 : Int) (x3 : Int) (x4 : Int) (x5 : Int) (x6 : Int) : evAt (env_utf_Next g61 s0 s1 s2 s3) [4, 1, 0, 1, 1, 1, 1, 1, 6, 1] [0, 5, 6, 7, 8, 9, 10] [.v (.one (.d .str x0)), .v (.one (.d (.int .i64) x1)), .v (.one (.d (.int .i64) x2)), .v (.one (.d (.int .u8) x3)), .v (.one (.d (.int .u8) x4)), .v (.one (.d (.int .i64) x5)), .v (.one (.d (.int .i64) x6))] [] some = utf_Next.s0c g61 s0 s1 s2 s3 x0 x1 x2 x3 x4 x5 x6 (fun r => some ⟨.tup [(.one (.d (.int .i64) r.1)), (.one (.d (.int .i64) r.2.1)), (.one (.d (.int .i64) r.2.2))], []⟩) := by
  kernel_rfl
theorem utf_Next.s1_ev (g61 : Int → Option (Int × Int × Int × Int)) (s0 : ByteArray → Int → Int → Int → Int → Int → Int → Option (Int × Int × Int)) (s1 : ByteArray → Int → Int → Int → Int → Bool → Option (Int × Int × Int)) (s2 : ByteArray → Int → Int → Int → Int → Option (Int × Int × Int)) (s3 : ByteArray → Int → Int → Int → Int → Int → Int → Option (Int × Int × Int)) (x0 : ByteArray) (x1 : Int) (x2 : Int) (x3 : Int) (x4 : Int) (x5 : Bool) : evAt (env_utf_Next g61 s0 s1 s2 s3) [1, 3, 1, 4, 0, 4, 0, 1, 5, 4, 1, 0, 1, 1, 1, 1, 1, 6, 1] [0, 5, 6, 9, 10, 33] [.v (.one (.d .str x0)), .v (.one (.d (.int .i64) x1)), .v (.one (.d (.int .i64) x2)), .v (.one (.d (.int .i64) x3)), .v (.one (.d (.int .i64) x4)), .v (.one (.d .bool x5))] [] some = utf_Next.s1c g61 s0 s1 s2 s3 x0 x1 x2 x3 x4 x5 (fun r => some ⟨.tup [(.one (.d (.int .i64) r.1)), (.one (.d (.int .i64) r.2.1)), (.one (.d (.int .i64) r.2.2))], []⟩) := by
  kernel_rfl
theorem utf_Next.s2_ev (g61 : Int → Option (Int × Int × Int × Int)) (s0 : ByteArray → Int → Int → Int → Int → Int → Int → Option (Int × Int × Int)) (s1 : ByteArray → Int → Int → Int → Int → Bool → Option (Int × Int × Int)) (s2 : ByteArray → Int → Int → Int → Int → Option (Int × Int × Int)) (s3 : ByteArray → Int → Int → Int → Int → Int → Int → Option (Int × Int × Int)) (x0 : ByteArray) (x1 : Int) (x2 : Int) (x3 : Int) (x4 : Int) : evAt (env_utf_Next g61 s0 s1 s2 s3) [1, 4, 0, 1, 5, 4, 1, 0, 1, 1, 1, 1, 1, 6, 1] [0, 5, 6, 9, 10] [.v (.one (.d .str x0)), .v (.one (.d (.int .i64) x1)), .v (.one (.d (.int .i64) x2)), .v (.one (.d (.int .i64) x3)), .v (.one (.d (.int .i64) x4))] [] some = utf_Next.s2c g61 s0 s1 s2 s3 x0 x1 x2 x3 x4 (fun r => some ⟨.tup [(.one (.d (.int .i64) r.1)), (.one (.d (.int .i64) r.2.1)), (.one (.d (.int .i64) r.2.2))], []⟩) := by
  kernel_rfl
theorem utf_Next.s3_ev (g61 : Int → Option (Int × Int × Int × Int)) (s0 : ByteArray → Int → Int → Int → Int → Int → Int → Option (Int × Int × Int)) (s1 : ByteArray → Int → Int → Int → Int → Bool → Option (Int × Int × Int)) (s2 : ByteArray → Int → Int → Int → Int → Option (Int × Int × Int)) (s3 : ByteArray → Int → Int → Int → Int → Int → Int → Option (Int × Int × Int)) (x0 : ByteArray) (x1 : Int) (x2 : Int) (x3 : Int) (x4 : Int) (x5 : Int) (x6 : Int) : evAt (env_utf_Next g61 s0 s1 s2 s3) [1, 1, 5, 4, 1, 0, 1, 1, 1, 1, 1, 6, 1] [0, 5, 6, 7, 8, 9, 10] [.v (.one (.d .str x0)), .v (.one (.d (.int .i64) x1)), .v (.one (.d (.int .i64) x2)), .v (.one (.d (.int .u8) x3)), .v (.one (.d (.int .u8) x4)), .v (.one (.d (.int .i64) x5)), .v (.one (.d (.int .i64) x6))] [] some = utf_Next.s3c g61 s0 s1 s2 s3 x0 x1 x2 x3 x4 x5 x6 (fun r => some ⟨.tup [(.one (.d (.int .i64) r.1)), (.one (.d (.int .i64) r.2.1)), (.one (.d (.int .i64) r.2.2))], []⟩) := by
  kernel_rfl
mutual
def utf_Next.s0 : Nat → ByteArray → Int → Int → Int → Int → Int → Int → Option (Int × Int × Int)
  | 0, _, _, _, _, _, _, _ => none
  | k + 1, x0, x1, x2, x3, x4, x5, x6 => utf_Next.s0c (utf_first.f k) (utf_Next.s0 k) (utf_Next.s1 k) (utf_Next.s2 k) (utf_Next.s3 k) x0 x1 x2 x3 x4 x5 x6 some
def utf_Next.s1 : Nat → ByteArray → Int → Int → Int → Int → Bool → Option (Int × Int × Int)
  | 0, _, _, _, _, _, _ => none
  | k + 1, x0, x1, x2, x3, x4, x5 => utf_Next.s1c (utf_first.f k) (utf_Next.s0 k) (utf_Next.s1 k) (utf_Next.s2 k) (utf_Next.s3 k) x0 x1 x2 x3 x4 x5 some
def utf_Next.s2 : Nat → ByteArray → Int → Int → Int → Int → Option (Int × Int × Int)
  | 0, _, _, _, _, _ => none
  | k + 1, x0, x1, x2, x3, x4 => utf_Next.s2c (utf_first.f k) (utf_Next.s0 k) (utf_Next.s1 k) (utf_Next.s2 k) (utf_Next.s3 k) x0 x1 x2 x3 x4 some
def utf_Next.s3 : Nat → ByteArray → Int → Int → Int → Int → Int → Int → Option (Int × Int × Int)
  | 0, _, _, _, _, _, _, _ => none
  | k + 1, x0, x1, x2, x3, x4, x5, x6 => utf_Next.s3c (utf_first.f k) (utf_Next.s0 k) (utf_Next.s1 k) (utf_Next.s2 k) (utf_Next.s3 k) x0 x1 x2 x3 x4 x5 x6 some
end
def utf_Next.f (k : Nat) (a0 : ByteArray) : Option (Int × Int × Int) := utf_Next.c (utf_first.f k) (utf_Next.s0 k) (utf_Next.s1 k) (utf_Next.s2 k) (utf_Next.s3 k) a0 some
theorem utf_Next.is (g61 : Int → Option (Int × Int × Int × Int)) (s0 : ByteArray → Int → Int → Int → Int → Int → Int → Option (Int × Int × Int)) (s1 : ByteArray → Int → Int → Int → Int → Bool → Option (Int × Int × Int)) (s2 : ByteArray → Int → Int → Int → Int → Option (Int × Int × Int)) (s3 : ByteArray → Int → Int → Int → Int → Int → Int → Option (Int × Int × Int)) : FnIs (env_utf_Next g61 s0 s1 s2 s3) 57 Go.Proofs.Try.f57 := ⟨Go.Proofs.Try.func57, rfl, rfl, rfl, by decide⟩
theorem utf_Next.envok (g61 : Int → Option (Int × Int × Int × Int)) (s0 : ByteArray → Int → Int → Int → Int → Int → Int → Option (Int × Int × Int)) (s1 : ByteArray → Int → Int → Int → Int → Bool → Option (Int × Int × Int)) (s2 : ByteArray → Int → Int → Int → Int → Option (Int × Int × Int)) (s3 : ByteArray → Int → Int → Int → Int → Int → Int → Option (Int × Int × Int)) (h61 : CtOK Go.Proofs.Try.prog 61 (ct_utf_first g61)) : EnvOK (env_utf_Next g61 s0 s1 s2 s3).toEnv := by
  intro f c h
  simp only [env_utf_Next] at h
  split at h
  · rename_i e; subst e; cases h; exact h61
  simp at h
theorem utf_Next.segs_ok : ∀ k, ∀ s ∈ (env_utf_Next (utf_first.f k) (utf_Next.s0 k) (utf_Next.s1 k) (utf_Next.s2 k) (utf_Next.s3 k)).segs, SegOK (env_utf_Next (utf_first.f k) (utf_Next.s0 k) (utf_Next.s1 k) (utf_Next.s2 k) (utf_Next.s3 k)) Go.Proofs.Try.f57 s
  | 0 => by
    intro s hs
    simp only [env_utf_Next, List.mem_cons, List.not_mem_nil, or_false] at hs
    rcases hs with rfl | rfl | rfl | rfl
    · intro tvs blks res h; exfalso; simp only [seg_utf_Next_0] at h; split at h <;> simp [utf_Next.s0] at h
    · intro tvs blks res h; exfalso; simp only [seg_utf_Next_1] at h; split at h <;> simp [utf_Next.s1] at h
    · intro tvs blks res h; exfalso; simp only [seg_utf_Next_2] at h; split at h <;> simp [utf_Next.s2] at h
    · intro tvs blks res h; exfalso; simp only [seg_utf_Next_3] at h; split at h <;> simp [utf_Next.s3] at h
  | k + 1 => by
    have ih := utf_Next.segs_ok k
    intro s hs
    simp only [env_utf_Next, List.mem_cons, List.not_mem_nil, or_false] at hs
    rcases hs with rfl | rfl | rfl | rfl
    · refine seg_of_ev (E := env_utf_Next (utf_first.f k) (utf_Next.s0 k) (utf_Next.s1 k) (utf_Next.s2 k) (utf_Next.s3 k)) (utf_Next.envok _ _ _ _ _  (utf_first.ok k)) ⟨(utf_Next.is (utf_first.f k) (utf_Next.s0 k) (utf_Next.s1 k) (utf_Next.s2 k) (utf_Next.s3 k)).rvs⟩ ih ?_
      intro tvs blks res h
      simp only [seg_utf_Next_0] at h
      split at h
      · refine (utf_Next.s0_ev (utf_first.f k) (utf_Next.s0 k) (utf_Next.s1 k) (utf_Next.s2 k) (utf_Next.s3 k) _ _ _ _ _ _ _ ).trans ?_
        rw [utf_Next.s0c_bind]
        exact h
      · simp at h
    · refine seg_of_ev (E := env_utf_Next (utf_first.f k) (utf_Next.s0 k) (utf_Next.s1 k) (utf_Next.s2 k) (utf_Next.s3 k)) (utf_Next.envok _ _ _ _ _  (utf_first.ok k)) ⟨(utf_Next.is (utf_first.f k) (utf_Next.s0 k) (utf_Next.s1 k) (utf_Next.s2 k) (utf_Next.s3 k)).rvs⟩ ih ?_
      intro tvs blks res h
      simp only [seg_utf_Next_1] at h
      split at h
      · refine (utf_Next.s1_ev (utf_first.f k) (utf_Next.s0 k) (utf_Next.s1 k) (utf_Next.s2 k) (utf_Next.s3 k) _ _ _ _ _ _ ).trans ?_
        rw [utf_Next.s1c_bind]
        exact h
      · simp at h
    · refine seg_of_ev (E := env_utf_Next (utf_first.f k) (utf_Next.s0 k) (utf_Next.s1 k) (utf_Next.s2 k) (utf_Next.s3 k)) (utf_Next.envok _ _ _ _ _  (utf_first.ok k)) ⟨(utf_Next.is (utf_first.f k) (utf_Next.s0 k) (utf_Next.s1 k) (utf_Next.s2 k) (utf_Next.s3 k)).rvs⟩ ih ?_
      intro tvs blks res h
      simp only [seg_utf_Next_2] at h
      split at h
      · refine (utf_Next.s2_ev (utf_first.f k) (utf_Next.s0 k) (utf_Next.s1 k) (utf_Next.s2 k) (utf_Next.s3 k) _ _ _ _ _ ).trans ?_
        rw [utf_Next.s2c_bind]
        exact h
      · simp at h
    · refine seg_of_ev (E := env_utf_Next (utf_first.f k) (utf_Next.s0 k) (utf_Next.s1 k) (utf_Next.s2 k) (utf_Next.s3 k)) (utf_Next.envok _ _ _ _ _  (utf_first.ok k)) ⟨(utf_Next.is (utf_first.f k) (utf_Next.s0 k) (utf_Next.s1 k) (utf_Next.s2 k) (utf_Next.s3 k)).rvs⟩ ih ?_
      intro tvs blks res h
      simp only [seg_utf_Next_3] at h
      split at h
      · refine (utf_Next.s3_ev (utf_first.f k) (utf_Next.s0 k) (utf_Next.s1 k) (utf_Next.s2 k) (utf_Next.s3 k) _ _ _ _ _ _ _ ).trans ?_
        rw [utf_Next.s3c_bind]
        exact h
      · simp at h
theorem utf_Next.ok (k : Nat) : CtOK Go.Proofs.Try.prog 57 (ct_utf_Next (utf_Next.f k)) := by
  refine ct_of_ev (E := env_utf_Next (utf_first.f k) (utf_Next.s0 k) (utf_Next.s1 k) (utf_Next.s2 k) (utf_Next.s3 k)) (utf_Next.is _ _ _ _ _ ) (utf_Next.envok _ _ _ _ _  (utf_first.ok k)) (utf_Next.segs_ok k) rfl ?_
  intro tvs blks res h
  simp only [ct_utf_Next] at h
  split at h
  · refine (utf_Next.ev (utf_first.f k) (utf_Next.s0 k) (utf_Next.s1 k) (utf_Next.s2 k) (utf_Next.s3 k) _ ).trans ?_
    rw [utf_Next.c_bind]
    exact h
  · simp at h

/-! ### utf_Count: function 51 -/
def ct_utf_Count (g : ByteArray → Option Int) : Ct where
  nin := 0
  mv := []
  F := fun tvs blks {β} K => match tvs, blks with
    | [.v (.one (.d .str a0))], [] => (g a0).bind fun r => K ⟨.v (.one (.d (.int .i64) r)), []⟩
    | _, _ => none
  legit := fun tvs blks K r h => by
    split at h
    · obtain ⟨x, hx, hk⟩ := Option.bind_eq_some_iff.1 h
      refine ⟨_, ?_, hk⟩
      simp only [hx, Option.bind_some]
    · simp at h
def seg_utf_Count_0 (g : ByteArray → Int → Option Int) : Seg where
  path := [4, 0, 1, 1]
  prep := []
  keep := [0, 3]
  F := fun tvs blks {β} K => match tvs, blks with
    | [.v (.one (.d .str x0)), .v (.one (.d (.int .i64) x1))], [] => (g x0 x1).bind fun r => K ⟨.v (.one (.d (.int .i64) r)), []⟩
    | _, _ => none
  legit := fun tvs blks K r h => by
    split at h
    · obtain ⟨x, hx, hk⟩ := Option.bind_eq_some_iff.1 h
      refine ⟨_, ?_, hk⟩
      simp only [hx, Option.bind_some]
    · simp at h
noncomputable def env_utf_Count (g57 : ByteArray → Option (Int × Int × Int)) (s0 : ByteArray → Int → Option Int) : FEnv := { P := Go.Proofs.Try.prog, ct := fun m => if m = 57 then some (ct_utf_Next g57) else none, N := 23, body := Go.Proofs.Try.f51.body.getD .skip, rvs := [.tmp 2], rts := [3], nin := 0, rmv := [], segs := [seg_utf_Count_0 s0] }
def utf_Count.c {β : Type} (g57 : ByteArray → Option (Int × Int × Int)) (s0 : ByteArray → Int → Option Int) (a0 : ByteArray) (ret : Int → Option β) : Option β := ((s0 a0 (0 : Int)).bind ret)
def utf_Count.s0c {β : Type} (g57 : ByteArray → Option (Int × Int × Int)) (s0 : ByteArray → Int → Option Int) (x0 : ByteArray) (x1 : Int) (ret : Int → Option β) : Option β := (bif (!((ByteArray.toList x0) == (ByteArray.toList (ByteArray.mk (List.toArray []))))) then ((g57 x0).bind fun r0 => (bif (r0.2.2 != (0 : Int)) then (ret ((-1 : Int))) else (bif (((decide ((0 : Int) ≤ r0.2.1)) && (decide (r0.2.1 ≤ ((ByteArray.size x0) : Int)))) && (decide (((ByteArray.size x0) : Int) ≤ ((ByteArray.size x0) : Int)))) then ((s0 (ByteArray.extract x0 (Int.toNat r0.2.1) (Int.toNat ((ByteArray.size x0) : Int))) (IntKind.wrap IntKind.i64 (x1 + (1 : Int)))).bind ret) else none))) else (ret (x1)))
theorem utf_Count.c_bind {β : Type} (g57 : ByteArray → Option (Int × Int × Int)) (s0 : ByteArray → Int → Option Int) (a0 : ByteArray) (ret : Int → Option β) : utf_Count.c g57 s0 a0 ret = (utf_Count.c g57 s0 a0 some).bind ret := by
  simp only [utf_Count.c, bif_bind, sum_bind, Option.bind_assoc, Option.bind_some, Option.bind_none, Option.bind_fun_some]
theorem utf_Count.s0c_bind {β : Type} (g57 : ByteArray → Option (Int × Int × Int)) (s0 : ByteArray → Int → Option Int) (x0 : ByteArray) (x1 : Int) (ret : Int → Option β) : utf_Count.s0c g57 s0 x0 x1 ret = (utf_Count.s0c g57 s0 x0 x1 some).bind ret := by
  simp only [utf_Count.s0c, bif_bind, sum_bind, Option.bind_assoc, Option.bind_some, Option.bind_none, Option.bind_fun_some]
theorem utf_Count.ev (g57 : ByteArray → Option (Int × Int × Int)) (s0 : ByteArray → Int → Option Int) (a0 : ByteArray) : evAt (env_utf_Count g57 s0) [] [0] [.v (.one (.d .str a0))] [] some = utf_Count.c g57 s0 a0 (fun r => some ⟨.v (.one (.d (.int .i64) r)), []⟩) := by
  kernel_rfl
theorem utf_Count.s0_ev (g57 : ByteArray → Option (Int × Int × Int)) (s0 : ByteArray → Int → Option Int) (x0 : ByteArray) (x1 : Int) : evAt (env_utf_Count g57 s0) [4, 0, 1, 1] [0, 3] [.v (.one (.d .str x0)), .v (.one (.d (.int .i64) x1))] [] some = utf_Count.s0c g57 s0 x0 x1 (fun r => some ⟨.v (.one (.d (.int .i64) r)), []⟩) := by
  kernel_rfl
def utf_Count.s0 : Nat → ByteArray → Int → Option Int
  | 0, _, _ => none
  | k + 1, x0, x1 => utf_Count.s0c (utf_Next.f k) (utf_Count.s0 k) x0 x1 some
def utf_Count.f (k : Nat) (a0 : ByteArray) : Option Int := utf_Count.c (utf_Next.f k) (utf_Count.s0 k) a0 some
theorem utf_Count.is (g57 : ByteArray → Option (Int × Int × Int)) (s0 : ByteArray → Int → Option Int) : FnIs (env_utf_Count g57 s0) 51 Go.Proofs.Try.f51 := ⟨Go.Proofs.Try.func51, rfl, rfl, rfl, by decide⟩
theorem utf_Count.envok (g57 : ByteArray → Option (Int × Int × Int)) (s0 : ByteArray → Int → Option Int) (h57 : CtOK Go.Proofs.Try.prog 57 (ct_utf_Next g57)) : EnvOK (env_utf_Count g57 s0).toEnv := by
  intro f c h
  simp only [env_utf_Count] at h
  split at h
  · rename_i e; subst e; cases h; exact h57
  simp at h
theorem utf_Count.segs_ok : ∀ k, ∀ s ∈ (env_utf_Count (utf_Next.f k) (utf_Count.s0 k)).segs, SegOK (env_utf_Count (utf_Next.f k) (utf_Count.s0 k)) Go.Proofs.Try.f51 s
  | 0 => by
    intro s hs
    simp only [env_utf_Count, List.mem_cons, List.not_mem_nil, or_false] at hs
    rcases hs with rfl
    · intro tvs blks res h; exfalso; simp only [seg_utf_Count_0] at h; split at h <;> simp [utf_Count.s0] at h
  | k + 1 => by
    have ih := utf_Count.segs_ok k
    intro s hs
    simp only [env_utf_Count, List.mem_cons, List.not_mem_nil, or_false] at hs
    rcases hs with rfl
    · refine seg_of_ev (E := env_utf_Count (utf_Next.f k) (utf_Count.s0 k)) (utf_Count.envok _ _  (utf_Next.ok k)) ⟨(utf_Count.is (utf_Next.f k) (utf_Count.s0 k)).rvs⟩ ih ?_
      intro tvs blks res h
      simp only [seg_utf_Count_0] at h
      split at h
      · refine (utf_Count.s0_ev (utf_Next.f k) (utf_Count.s0 k) _ _ ).trans ?_
        rw [utf_Count.s0c_bind]
        exact h
      · simp at h
theorem utf_Count.ok (k : Nat) : CtOK Go.Proofs.Try.prog 51 (ct_utf_Count (utf_Count.f k)) := by
  refine ct_of_ev (E := env_utf_Count (utf_Next.f k) (utf_Count.s0 k)) (utf_Count.is _ _ ) (utf_Count.envok _ _  (utf_Next.ok k)) (utf_Count.segs_ok k) rfl ?_
  intro tvs blks res h
  simp only [ct_utf_Count] at h
  split at h
  · refine (utf_Count.ev (utf_Next.f k) (utf_Count.s0 k) _ ).trans ?_
    rw [utf_Count.c_bind]
    exact h
  · simp at h

/-! ### utf_Valid: function 36 -/
def ct_utf_Valid (g : ByteArray → Option Bool) : Ct where
  nin := 0
  mv := []
  F := fun tvs blks {β} K => match tvs, blks with
    | [.v (.one (.d .str a0))], [] => (g a0).bind fun r => K ⟨.v (.one (.d .bool r)), []⟩
    | _, _ => none
  legit := fun tvs blks K r h => by
    split at h
    · obtain ⟨x, hx, hk⟩ := Option.bind_eq_some_iff.1 h
      refine ⟨_, ?_, hk⟩
      simp only [hx, Option.bind_some]
    · simp at h
noncomputable def env_utf_Valid (g51 : ByteArray → Option Int)  : FEnv := { P := Go.Proofs.Try.prog, ct := fun m => if m = 51 then some (ct_utf_Count g51) else none, N := 6, body := Go.Proofs.Try.f36.body.getD .skip, rvs := [.tmp 2], rts := [4], nin := 0, rmv := [], segs := [] }
def utf_Valid.c {β : Type} (g51 : ByteArray → Option Int)  (a0 : ByteArray) (ret : Bool → Option β) : Option β := ((g51 a0).bind fun r0 => (ret ((decide (r0 ≥ (0 : Int))))))
theorem utf_Valid.c_bind {β : Type} (g51 : ByteArray → Option Int)  (a0 : ByteArray) (ret : Bool → Option β) : utf_Valid.c g51  a0 ret = (utf_Valid.c g51  a0 some).bind ret := by
  simp only [utf_Valid.c, bif_bind, sum_bind, Option.bind_assoc, Option.bind_some, Option.bind_none, Option.bind_fun_some]
theorem utf_Valid.ev (g51 : ByteArray → Option Int)  (a0 : ByteArray) : evAt (env_utf_Valid g51 ) [] [0] [.v (.one (.d .str a0))] [] some = utf_Valid.c g51  a0 (fun r => some ⟨.v (.one (.d .bool r)), []⟩) := by
  kernel_rfl
def utf_Valid.f (k : Nat) (a0 : ByteArray) : Option Bool := utf_Valid.c (utf_Count.f k)  a0 some
theorem utf_Valid.is (g51 : ByteArray → Option Int)  : FnIs (env_utf_Valid g51 ) 36 Go.Proofs.Try.f36 := ⟨Go.Proofs.Try.func36, rfl, rfl, rfl, by decide⟩
theorem utf_Valid.envok (g51 : ByteArray → Option Int)  (h51 : CtOK Go.Proofs.Try.prog 51 (ct_utf_Count g51)) : EnvOK (env_utf_Valid g51 ).toEnv := by
  intro f c h
  simp only [env_utf_Valid] at h
  split at h
  · rename_i e; subst e; cases h; exact h51
  simp at h
theorem utf_Valid.ok (k : Nat) : CtOK Go.Proofs.Try.prog 36 (ct_utf_Valid (utf_Valid.f k)) := by
  refine ct_of_ev (E := env_utf_Valid (utf_Count.f k) ) (utf_Valid.is _ ) (utf_Valid.envok _  (utf_Count.ok k)) (fun s hs => by simp [env_utf_Valid] at hs) rfl ?_
  intro tvs blks res h
  simp only [ct_utf_Valid] at h
  split at h
  · refine (utf_Valid.ev (utf_Count.f k)  _ ).trans ?_
    rw [utf_Valid.c_bind]
    exact h
  · simp at h

/-! ### values_Check: function 18 -/
def ct_values_Check (g : Int → Int → Int → ByteArray → Option Int) : Ct where
  nin := 0
  mv := []
  F := fun tvs blks {β} K => match tvs, blks with
    | [.v (.agg [(.d (.int .i64) a0), (.d (.int .i64) a1), (.d (.int .u64) a2), (.d .str a3)])], [] => (g a0 a1 a2 a3).bind fun r => K ⟨.v (.one (.d (.int .i64) r)), []⟩
    | _, _ => none
  legit := fun tvs blks K r h => by
    split at h
    · obtain ⟨x, hx, hk⟩ := Option.bind_eq_some_iff.1 h
      refine ⟨_, ?_, hk⟩
      simp only [hx, Option.bind_some]
    · simp at h
def seg_values_Check_0 (g : Bool → Int → Int → Int → ByteArray → Option Int) : Seg where
  path := [1, 4, 0, 1]
  prep := []
  keep := [1, 3]
  F := fun tvs blks {β} K => match tvs, blks with
    | [.v (.one (.ptr 0 0)), .v (.one (.d .bool x0))], [some (.box [(.d (.int .i64) x1), (.d (.int .i64) x2), (.d (.int .u64) x3), (.d .str x4)])] => (g x0 x1 x2 x3 x4).bind fun r => K ⟨.v (.one (.d (.int .i64) r)), []⟩
    | _, _ => none
  legit := fun tvs blks K r h => by
    split at h
    · obtain ⟨x, hx, hk⟩ := Option.bind_eq_some_iff.1 h
      refine ⟨_, ?_, hk⟩
      simp only [hx, Option.bind_some]
    · simp at h
def seg_values_Check_1 (g : Bool → Int → Int → Int → ByteArray → Option Int) : Seg where
  path := [1, 3, 1, 3, 1, 4, 0, 1]
  prep := []
  keep := [1, 17]
  F := fun tvs blks {β} K => match tvs, blks with
    | [.v (.one (.ptr 0 0)), .v (.one (.d .bool x0))], [some (.box [(.d (.int .i64) x1), (.d (.int .i64) x2), (.d (.int .u64) x3), (.d .str x4)])] => (g x0 x1 x2 x3 x4).bind fun r => K ⟨.v (.one (.d (.int .i64) r)), []⟩
    | _, _ => none
  legit := fun tvs blks K r h => by
    split at h
    · obtain ⟨x, hx, hk⟩ := Option.bind_eq_some_iff.1 h
      refine ⟨_, ?_, hk⟩
      simp only [hx, Option.bind_some]
    · simp at h
noncomputable def env_values_Check (g34 : Int → Int → Int → ByteArray → Option (Int × Int × Int × ByteArray)) (g35 : Int → Option Int) (g36 : ByteArray → Option Bool) (s0 : Bool → Int → Int → Int → ByteArray → Option Int) (s1 : Bool → Int → Int → Int → ByteArray → Option Int) : FEnv := { P := Go.Proofs.Try.prog, ct := fun m => if m = 34 then some (ct_values_only g34) else if m = 35 then some (ct_reals_Canon g35) else if m = 36 then some (ct_utf_Valid g36) else none, N := 53, body := Go.Proofs.Try.f18.body.getD .skip, rvs := [.tmp 2], rts := [27], nin := 0, rmv := [], segs := [seg_values_Check_0 s0, seg_values_Check_1 s1] }
def values_Check.c {β : Type} (g34 : Int → Int → Int → ByteArray → Option (Int × Int × Int × ByteArray)) (g35 : Int → Option Int) (g36 : ByteArray → Option Bool) (s0 : Bool → Int → Int → Int → ByteArray → Option Int) (s1 : Bool → Int → Int → Int → ByteArray → Option Int) (a0 : Int) (a1 : Int) (a2 : Int) (a3 : ByteArray) (ret : Int → Option β) : Option β := (bif (decide (a0 < (0 : Int))) then ((s0 true a0 a1 a2 a3).bind ret) else ((s0 (decide (a0 ≥ (6 : Int))) a0 a1 a2 a3).bind ret))
def values_Check.s0c {β : Type} (g34 : Int → Int → Int → ByteArray → Option (Int × Int × Int × ByteArray)) (g35 : Int → Option Int) (g36 : ByteArray → Option Bool) (s0 : Bool → Int → Int → Int → ByteArray → Option Int) (s1 : Bool → Int → Int → Int → ByteArray → Option Int) (x0 : Bool) (x1 : Int) (x2 : Int) (x3 : Int) (x4 : ByteArray) (ret : Int → Option β) : Option β := (bif x0 then (ret ((5 : Int))) else ((g34 x1 x2 x3 x4).bind fun r0 => (bif (!((r0.1 == x1) && ((r0.2.1 == x2) && ((r0.2.2.1 == x3) && (((ByteArray.toList r0.2.2.2) == (ByteArray.toList x4)) && true))))) then (ret ((4 : Int))) else (bif (x1 == (1 : Int)) then (bif (x2 != (0 : Int)) then ((s1 (x2 != (1 : Int)) x1 x2 x3 x4).bind ret) else ((s1 false x1 x2 x3 x4).bind ret)) else ((s1 false x1 x2 x3 x4).bind ret)))))
def values_Check.s1c {β : Type} (g34 : Int → Int → Int → ByteArray → Option (Int × Int × Int × ByteArray)) (g35 : Int → Option Int) (g36 : ByteArray → Option Bool) (s0 : Bool → Int → Int → Int → ByteArray → Option Int) (s1 : Bool → Int → Int → Int → ByteArray → Option Int) (x0 : Bool) (x1 : Int) (x2 : Int) (x3 : Int) (x4 : ByteArray) (ret : Int → Option β) : Option β := (bif x0 then (ret ((6 : Int))) else ((g35 x3).bind fun r0 => (bif (r0 != x3) then (ret ((4 : Int))) else (bif (decide (((ByteArray.size x4) : Int) > (64 : Int))) then (ret ((2 : Int))) else (bif (x1 == (5 : Int)) then ((g36 x4).bind fun r1 => (bif (!r1) then (ret ((7 : Int))) else (ret ((0 : Int))))) else (ret ((0 : Int))))))))
theorem values_Check.c_bind {β : Type} (g34 : Int → Int → Int → ByteArray → Option (Int × Int × Int × ByteArray)) (g35 : Int → Option Int) (g36 : ByteArray → Option Bool) (s0 : Bool → Int → Int → Int → ByteArray → Option Int) (s1 : Bool → Int → Int → Int → ByteArray → Option Int) (a0 : Int) (a1 : Int) (a2 : Int) (a3 : ByteArray) (ret : Int → Option β) : values_Check.c g34 g35 g36 s0 s1 a0 a1 a2 a3 ret = (values_Check.c g34 g35 g36 s0 s1 a0 a1 a2 a3 some).bind ret := by
  simp only [values_Check.c, bif_bind, sum_bind, Option.bind_assoc, Option.bind_some, Option.bind_none, Option.bind_fun_some]
theorem values_Check.s0c_bind {β : Type} (g34 : Int → Int → Int → ByteArray → Option (Int × Int × Int × ByteArray)) (g35 : Int → Option Int) (g36 : ByteArray → Option Bool) (s0 : Bool → Int → Int → Int → ByteArray → Option Int) (s1 : Bool → Int → Int → Int → ByteArray → Option Int) (x0 : Bool) (x1 : Int) (x2 : Int) (x3 : Int) (x4 : ByteArray) (ret : Int → Option β) : values_Check.s0c g34 g35 g36 s0 s1 x0 x1 x2 x3 x4 ret = (values_Check.s0c g34 g35 g36 s0 s1 x0 x1 x2 x3 x4 some).bind ret := by
  simp only [values_Check.s0c, bif_bind, sum_bind, Option.bind_assoc, Option.bind_some, Option.bind_none, Option.bind_fun_some]
theorem values_Check.s1c_bind {β : Type} (g34 : Int → Int → Int → ByteArray → Option (Int × Int × Int × ByteArray)) (g35 : Int → Option Int) (g36 : ByteArray → Option Bool) (s0 : Bool → Int → Int → Int → ByteArray → Option Int) (s1 : Bool → Int → Int → Int → ByteArray → Option Int) (x0 : Bool) (x1 : Int) (x2 : Int) (x3 : Int) (x4 : ByteArray) (ret : Int → Option β) : values_Check.s1c g34 g35 g36 s0 s1 x0 x1 x2 x3 x4 ret = (values_Check.s1c g34 g35 g36 s0 s1 x0 x1 x2 x3 x4 some).bind ret := by
  simp only [values_Check.s1c, bif_bind, sum_bind, Option.bind_assoc, Option.bind_some, Option.bind_none, Option.bind_fun_some]
theorem values_Check.ev (g34 : Int → Int → Int → ByteArray → Option (Int × Int × Int × ByteArray)) (g35 : Int → Option Int) (g36 : ByteArray → Option Bool) (s0 : Bool → Int → Int → Int → ByteArray → Option Int) (s1 : Bool → Int → Int → Int → ByteArray → Option Int) (a0 : Int) (a1 : Int) (a2 : Int) (a3 : ByteArray) : evAt (env_values_Check g34 g35 g36 s0 s1) [] [0] [.v (.agg [(.d (.int .i64) a0), (.d (.int .i64) a1), (.d (.int .u64) a2), (.d .str a3)])] [] some = values_Check.c g34 g35 g36 s0 s1 a0 a1 a2 a3 (fun r => some ⟨.v (.one (.d (.int .i64) r)), []⟩) := by
  kernel_rfl
theorem values_Check.s0_ev (g34 : Int → Int → Int → ByteArray → Option (Int × Int × Int × ByteArray)) (g35 : Int → Option Int) (g36 : ByteArray → Option Bool) (s0 : Bool → Int → Int → Int → ByteArray → Option Int) (s1 : Bool → Int → Int → Int → ByteArray → Option Int) (x0 : Bool) (x1 : Int) (x2 : Int) (x3 : Int) (x4 : ByteArray) : evAt (env_values_Check g34 g35 g36 s0 s1) [1, 4, 0, 1] [1, 3] [.v (.one (.ptr 0 0)), .v (.one (.d .bool x0))] [some (.box [(.d (.int .i64) x1), (.d (.int .i64) x2), (.d (.int .u64) x3), (.d .str x4)])] some = values_Check.s0c g34 g35 g36 s0 s1 x0 x1 x2 x3 x4 (fun r => some ⟨.v (.one (.d (.int .i64) r)), []⟩) := by
  kernel_rfl
theorem values_Check.s1_ev (g34 : Int → Int → Int → ByteArray → Option (Int × Int × Int × ByteArray)) (g35 : Int → Option Int) (g36 : ByteArray → Option Bool) (s0 : Bool → Int → Int → Int → ByteArray → Option Int) (s1 : Bool → Int → Int → Int → ByteArray → Option Int) (x0 : Bool) (x1 : Int) (x2 : Int) (x3 : Int) (x4 : ByteArray) : evAt (env_values_Check g34 g35 g36 s0 s1) [1, 3, 1, 3, 1, 4, 0, 1] [1, 17] [.v (.one (.ptr 0 0)), .v (.one (.d .bool x0))] [some (.box [(.d (.int .i64) x1), (.d (.int .i64) x2), (.d (.int .u64) x3), (.d .str x4)])] some = values_Check.s1c g34 g35 g36 s0 s1 x0 x1 x2 x3 x4 (fun r => some ⟨.v (.one (.d (.int .i64) r)), []⟩) := by
  kernel_rfl
mutual
def values_Check.s0 : Nat → Bool → Int → Int → Int → ByteArray → Option Int
  | 0, _, _, _, _, _ => none
  | k + 1, x0, x1, x2, x3, x4 => values_Check.s0c (values_only.f k) (reals_Canon.f k) (utf_Valid.f k) (values_Check.s0 k) (values_Check.s1 k) x0 x1 x2 x3 x4 some
def values_Check.s1 : Nat → Bool → Int → Int → Int → ByteArray → Option Int
  | 0, _, _, _, _, _ => none
  | k + 1, x0, x1, x2, x3, x4 => values_Check.s1c (values_only.f k) (reals_Canon.f k) (utf_Valid.f k) (values_Check.s0 k) (values_Check.s1 k) x0 x1 x2 x3 x4 some
end
def values_Check.f (k : Nat) (a0 : Int) (a1 : Int) (a2 : Int) (a3 : ByteArray) : Option Int := values_Check.c (values_only.f k) (reals_Canon.f k) (utf_Valid.f k) (values_Check.s0 k) (values_Check.s1 k) a0 a1 a2 a3 some
theorem values_Check.is (g34 : Int → Int → Int → ByteArray → Option (Int × Int × Int × ByteArray)) (g35 : Int → Option Int) (g36 : ByteArray → Option Bool) (s0 : Bool → Int → Int → Int → ByteArray → Option Int) (s1 : Bool → Int → Int → Int → ByteArray → Option Int) : FnIs (env_values_Check g34 g35 g36 s0 s1) 18 Go.Proofs.Try.f18 := ⟨Go.Proofs.Try.func18, rfl, rfl, rfl, by decide⟩
theorem values_Check.envok (g34 : Int → Int → Int → ByteArray → Option (Int × Int × Int × ByteArray)) (g35 : Int → Option Int) (g36 : ByteArray → Option Bool) (s0 : Bool → Int → Int → Int → ByteArray → Option Int) (s1 : Bool → Int → Int → Int → ByteArray → Option Int) (h34 : CtOK Go.Proofs.Try.prog 34 (ct_values_only g34)) (h35 : CtOK Go.Proofs.Try.prog 35 (ct_reals_Canon g35)) (h36 : CtOK Go.Proofs.Try.prog 36 (ct_utf_Valid g36)) : EnvOK (env_values_Check g34 g35 g36 s0 s1).toEnv := by
  intro f c h
  simp only [env_values_Check] at h
  split at h
  · rename_i e; subst e; cases h; exact h34
  split at h
  · rename_i e; subst e; cases h; exact h35
  split at h
  · rename_i e; subst e; cases h; exact h36
  simp at h
theorem values_Check.segs_ok : ∀ k, ∀ s ∈ (env_values_Check (values_only.f k) (reals_Canon.f k) (utf_Valid.f k) (values_Check.s0 k) (values_Check.s1 k)).segs, SegOK (env_values_Check (values_only.f k) (reals_Canon.f k) (utf_Valid.f k) (values_Check.s0 k) (values_Check.s1 k)) Go.Proofs.Try.f18 s
  | 0 => by
    intro s hs
    simp only [env_values_Check, List.mem_cons, List.not_mem_nil, or_false] at hs
    rcases hs with rfl | rfl
    · intro tvs blks res h; exfalso; simp only [seg_values_Check_0] at h; split at h <;> simp [values_Check.s0] at h
    · intro tvs blks res h; exfalso; simp only [seg_values_Check_1] at h; split at h <;> simp [values_Check.s1] at h
  | k + 1 => by
    have ih := values_Check.segs_ok k
    intro s hs
    simp only [env_values_Check, List.mem_cons, List.not_mem_nil, or_false] at hs
    rcases hs with rfl | rfl
    · refine seg_of_ev (E := env_values_Check (values_only.f k) (reals_Canon.f k) (utf_Valid.f k) (values_Check.s0 k) (values_Check.s1 k)) (values_Check.envok _ _ _ _ _  (values_only.ok k) (reals_Canon.ok k) (utf_Valid.ok k)) ⟨(values_Check.is (values_only.f k) (reals_Canon.f k) (utf_Valid.f k) (values_Check.s0 k) (values_Check.s1 k)).rvs⟩ ih ?_
      intro tvs blks res h
      simp only [seg_values_Check_0] at h
      split at h
      · refine (values_Check.s0_ev (values_only.f k) (reals_Canon.f k) (utf_Valid.f k) (values_Check.s0 k) (values_Check.s1 k) _ _ _ _ _ ).trans ?_
        rw [values_Check.s0c_bind]
        exact h
      · simp at h
    · refine seg_of_ev (E := env_values_Check (values_only.f k) (reals_Canon.f k) (utf_Valid.f k) (values_Check.s0 k) (values_Check.s1 k)) (values_Check.envok _ _ _ _ _  (values_only.ok k) (reals_Canon.ok k) (utf_Valid.ok k)) ⟨(values_Check.is (values_only.f k) (reals_Canon.f k) (utf_Valid.f k) (values_Check.s0 k) (values_Check.s1 k)).rvs⟩ ih ?_
      intro tvs blks res h
      simp only [seg_values_Check_1] at h
      split at h
      · refine (values_Check.s1_ev (values_only.f k) (reals_Canon.f k) (utf_Valid.f k) (values_Check.s0 k) (values_Check.s1 k) _ _ _ _ _ ).trans ?_
        rw [values_Check.s1c_bind]
        exact h
      · simp at h
theorem values_Check.ok (k : Nat) : CtOK Go.Proofs.Try.prog 18 (ct_values_Check (values_Check.f k)) := by
  refine ct_of_ev (E := env_values_Check (values_only.f k) (reals_Canon.f k) (utf_Valid.f k) (values_Check.s0 k) (values_Check.s1 k)) (values_Check.is _ _ _ _ _ ) (values_Check.envok _ _ _ _ _  (values_only.ok k) (reals_Canon.ok k) (utf_Valid.ok k)) (values_Check.segs_ok k) rfl ?_
  intro tvs blks res h
  simp only [ct_values_Check] at h
  split at h
  · refine (values_Check.ev (values_only.f k) (reals_Canon.f k) (utf_Valid.f k) (values_Check.s0 k) (values_Check.s1 k) _ _ _ _ ).trans ?_
    rw [values_Check.c_bind]
    exact h
  · simp at h

/-! ### convert_refuse: function 21 -/
def ct_convert_refuse (g : Int → Option Int) : Ct where
  nin := 0
  mv := []
  F := fun tvs blks {β} K => match tvs, blks with
    | [.v (.one (.d (.int .i64) a0))], [] => (g a0).bind fun r => K ⟨.v (.one (.fn 38 [(0, 0)])), [some (.box [(.d (.int .i64) r)])]⟩
    | _, _ => none
  legit := fun tvs blks K r h => by
    split at h
    · obtain ⟨x, hx, hk⟩ := Option.bind_eq_some_iff.1 h
      refine ⟨_, ?_, hk⟩
      simp only [hx, Option.bind_some]
    · simp at h
noncomputable def env_convert_refuse   : FEnv := { P := Go.Proofs.Try.prog, ct := fun m => none, N := 4, body := Go.Proofs.Try.f21.body.getD .skip, rvs := [.tmp 2], rts := [45], nin := 0, rmv := [], segs := [] }
def convert_refuse.c {β : Type}   (a0 : Int) (ret : Int → Option β) : Option β := (ret (a0))
theorem convert_refuse.c_bind {β : Type}   (a0 : Int) (ret : Int → Option β) : convert_refuse.c   a0 ret = (convert_refuse.c   a0 some).bind ret := by
  simp only [convert_refuse.c, bif_bind, sum_bind, Option.bind_assoc, Option.bind_some, Option.bind_none, Option.bind_fun_some]
theorem convert_refuse.ev   (a0 : Int) : evAt (env_convert_refuse  ) [] [0] [.v (.one (.d (.int .i64) a0))] [] some = convert_refuse.c   a0 (fun r => some ⟨.v (.one (.fn 38 [(0, 0)])), [some (.box [(.d (.int .i64) r)])]⟩) := by
  kernel_rfl
def convert_refuse.f (k : Nat) (a0 : Int) : Option Int := convert_refuse.c   a0 some
theorem convert_refuse.is   : FnIs (env_convert_refuse  ) 21 Go.Proofs.Try.f21 := ⟨Go.Proofs.Try.func21, rfl, rfl, rfl, by decide⟩
theorem convert_refuse.envok    : EnvOK (env_convert_refuse  ).toEnv := by
  intro f c h
  simp only [env_convert_refuse] at h
  simp at h
theorem convert_refuse.ok (k : Nat) : CtOK Go.Proofs.Try.prog 21 (ct_convert_refuse (convert_refuse.f k)) := by
  refine ct_of_ev (E := env_convert_refuse  ) (convert_refuse.is ) (convert_refuse.envok  ) (fun s hs => by simp [env_convert_refuse] at hs) rfl ?_
  intro tvs blks res h
  simp only [ct_convert_refuse] at h
  split at h
  · refine (convert_refuse.ev   _ ).trans ?_
    rw [convert_refuse.c_bind]
    exact h
  · simp at h

/-! ### convert_give: function 22 -/
def ct_convert_give (g : Int → Int → Int → ByteArray → Option (Int × Int × Int × ByteArray)) : Ct where
  nin := 0
  mv := []
  F := fun tvs blks {β} K => match tvs, blks with
    | [.v (.agg [(.d (.int .i64) a0), (.d (.int .i64) a1), (.d (.int .u64) a2), (.d .str a3)])], [] => (g a0 a1 a2 a3).bind fun r => K ⟨.v (.one (.fn 39 [(0, 0)])), [some (.box [(.d (.int .i64) r.1), (.d (.int .i64) r.2.1), (.d (.int .u64) r.2.2.1), (.d .str r.2.2.2)])]⟩
    | _, _ => none
  legit := fun tvs blks K r h => by
    split at h
    · obtain ⟨x, hx, hk⟩ := Option.bind_eq_some_iff.1 h
      refine ⟨_, ?_, hk⟩
      simp only [hx, Option.bind_some]
    · simp at h
noncomputable def env_convert_give   : FEnv := { P := Go.Proofs.Try.prog, ct := fun m => none, N := 4, body := Go.Proofs.Try.f22.body.getD .skip, rvs := [.tmp 2], rts := [45], nin := 0, rmv := [], segs := [] }
def convert_give.c {β : Type}   (a0 : Int) (a1 : Int) (a2 : Int) (a3 : ByteArray) (ret : (Int × Int × Int × ByteArray) → Option β) : Option β := (ret (a0, a1, a2, a3))
theorem convert_give.c_bind {β : Type}   (a0 : Int) (a1 : Int) (a2 : Int) (a3 : ByteArray) (ret : (Int × Int × Int × ByteArray) → Option β) : convert_give.c   a0 a1 a2 a3 ret = (convert_give.c   a0 a1 a2 a3 some).bind ret := by
  simp only [convert_give.c, bif_bind, sum_bind, Option.bind_assoc, Option.bind_some, Option.bind_none, Option.bind_fun_some]
theorem convert_give.ev   (a0 : Int) (a1 : Int) (a2 : Int) (a3 : ByteArray) : evAt (env_convert_give  ) [] [0] [.v (.agg [(.d (.int .i64) a0), (.d (.int .i64) a1), (.d (.int .u64) a2), (.d .str a3)])] [] some = convert_give.c   a0 a1 a2 a3 (fun r => some ⟨.v (.one (.fn 39 [(0, 0)])), [some (.box [(.d (.int .i64) r.1), (.d (.int .i64) r.2.1), (.d (.int .u64) r.2.2.1), (.d .str r.2.2.2)])]⟩) := by
  kernel_rfl
def convert_give.f (k : Nat) (a0 : Int) (a1 : Int) (a2 : Int) (a3 : ByteArray) : Option (Int × Int × Int × ByteArray) := convert_give.c   a0 a1 a2 a3 some
theorem convert_give.is   : FnIs (env_convert_give  ) 22 Go.Proofs.Try.f22 := ⟨Go.Proofs.Try.func22, rfl, rfl, rfl, by decide⟩
theorem convert_give.envok    : EnvOK (env_convert_give  ).toEnv := by
  intro f c h
  simp only [env_convert_give] at h
  simp at h
theorem convert_give.ok (k : Nat) : CtOK Go.Proofs.Try.prog 22 (ct_convert_give (convert_give.f k)) := by
  refine ct_of_ev (E := env_convert_give  ) (convert_give.is ) (convert_give.envok  ) (fun s hs => by simp [env_convert_give] at hs) rfl ?_
  intro tvs blks res h
  simp only [ct_convert_give] at h
  split at h
  · refine (convert_give.ev   _ _ _ _ ).trans ?_
    rw [convert_give.c_bind]
    exact h
  · simp at h
end Go.Proofs.Ytndkobhclggeiaa.Aev
