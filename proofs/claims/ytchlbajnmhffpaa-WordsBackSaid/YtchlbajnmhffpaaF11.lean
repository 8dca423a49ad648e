/- By a program of this session (AEV): functions of the program as plain functions, and that the machine does what they say. -/
import Derived.Test.YtchlbajnmhffpaaAevW
import Derived.Test.YtchlbajnmhffpaaProg
import Derived.Laws.Externs
import Derived.Lib.Bytealg
import Derived.Test.YtchlbajnmhffpaaF10
namespace Go.Proofs.Ytchlbajnmhffpaa.Aev
set_option linter.unusedVariables false
set_option linter.unusedSimpArgs false
set_option maxRecDepth 100000
set_option maxHeartbeats 4000000
open Go
/-! ### transomref36_Unquote: function 13 -/
def ct_transomref36_Unquote (g : ByteArray → Option (ByteArray × Int)) : Ct where
  nin := 0
  mv := []
  F := fun tvs blks {β} K => match tvs, blks with
    | [.v (.one (.d .str a0))], [] => (g a0).bind fun r => K ⟨.tup [(.one (.d .str r.1)), (.one (.d (.int .i64) r.2))], []⟩
    | _, _ => none
  legit := fun tvs blks K r h => by
    split at h
    · obtain ⟨x, hx, hk⟩ := Option.bind_eq_some_iff.1 h
      refine ⟨_, ?_, hk⟩
      simp only [hx, Option.bind_some]
    · simp at h
def seg_transomref36_Unquote_0 (g : ByteArray → Int → (List Int) → Option (ByteArray × Int)) : Seg where
  path := [4, 1, 0, 1, 1, 1]
  prep := [.own 4 (.int .u8)]
  keep := [0, 4, 5]
  F := fun tvs blks {β} K => match tvs, blks with
    | [.v (.one (.d .str x0)), .v (.one (.own 0)), .v (.one (.d (.int .i64) x1))], [some (.own (.int .u8) false x2)] => (g x0 x1 x2).bind fun r => K ⟨.tup [(.one (.d .str r.1)), (.one (.d (.int .i64) r.2))], []⟩
    | _, _ => none
  legit := fun tvs blks K r h => by
    split at h
    · obtain ⟨x, hx, hk⟩ := Option.bind_eq_some_iff.1 h
      refine ⟨_, ?_, hk⟩
      simp only [hx, Option.bind_some]
    · simp at h
def seg_transomref36_Unquote_1 (g : ByteArray → Int → Int → Bool → (List Int) → Option (ByteArray × Int)) : Seg where
  path := [1, 0, 1, 4, 0, 1, 5, 4, 1, 0, 1, 1, 1]
  prep := []
  keep := [0, 4, 5, 6, 29]
  F := fun tvs blks {β} K => match tvs, blks with
    | [.v (.one (.d .str x0)), .v (.one (.own 0)), .v (.one (.d (.int .i64) x1)), .v (.one (.d (.int .u8) x2)), .v (.one (.d .bool x3))], [some (.own (.int .u8) false x4)] => (g x0 x1 x2 x3 x4).bind fun r => K ⟨.tup [(.one (.d .str r.1)), (.one (.d (.int .i64) r.2))], []⟩
    | _, _ => none
  legit := fun tvs blks K r h => by
    split at h
    · obtain ⟨x, hx, hk⟩ := Option.bind_eq_some_iff.1 h
      refine ⟨_, ?_, hk⟩
      simp only [hx, Option.bind_some]
    · simp at h
def seg_transomref36_Unquote_2 (g : ByteArray → Int → Int → Bool → (List Int) → Option (ByteArray × Int)) : Seg where
  path := [1, 1, 1, 2, 1, 0, 1, 4, 0, 1, 5, 4, 1, 0, 1, 1, 1]
  prep := []
  keep := [0, 4, 5, 6, 44]
  F := fun tvs blks {β} K => match tvs, blks with
    | [.v (.one (.d .str x0)), .v (.one (.own 0)), .v (.one (.d (.int .i64) x1)), .v (.one (.d (.int .u8) x2)), .v (.one (.d .bool x3))], [some (.own (.int .u8) false x4)] => (g x0 x1 x2 x3 x4).bind fun r => K ⟨.tup [(.one (.d .str r.1)), (.one (.d (.int .i64) r.2))], []⟩
    | _, _ => none
  legit := fun tvs blks K r h => by
    split at h
    · obtain ⟨x, hx, hk⟩ := Option.bind_eq_some_iff.1 h
      refine ⟨_, ?_, hk⟩
      simp only [hx, Option.bind_some]
    · simp at h
def seg_transomref36_Unquote_3 (g : ByteArray → Int → Int → (List Int) → Option (ByteArray × Int)) : Seg where
  path := [1, 1, 4, 0, 1, 5, 4, 1, 0, 1, 1, 1]
  prep := []
  keep := [0, 4, 5, 6]
  F := fun tvs blks {β} K => match tvs, blks with
    | [.v (.one (.d .str x0)), .v (.one (.own 0)), .v (.one (.d (.int .i64) x1)), .v (.one (.d (.int .u8) x2))], [some (.own (.int .u8) false x3)] => (g x0 x1 x2 x3).bind fun r => K ⟨.tup [(.one (.d .str r.1)), (.one (.d (.int .i64) r.2))], []⟩
    | _, _ => none
  legit := fun tvs blks K r h => by
    split at h
    · obtain ⟨x, hx, hk⟩ := Option.bind_eq_some_iff.1 h
      refine ⟨_, ?_, hk⟩
      simp only [hx, Option.bind_some]
    · simp at h
def seg_transomref36_Unquote_4 (g : ByteArray → Int → (List Int) → Option (ByteArray × Int)) : Seg where
  path := [1, 1, 5, 4, 1, 0, 1, 1, 1]
  prep := []
  keep := [0, 4, 5]
  F := fun tvs blks {β} K => match tvs, blks with
    | [.v (.one (.d .str x0)), .v (.one (.own 0)), .v (.one (.d (.int .i64) x1))], [some (.own (.int .u8) false x2)] => (g x0 x1 x2).bind fun r => K ⟨.tup [(.one (.d .str r.1)), (.one (.d (.int .i64) r.2))], []⟩
    | _, _ => none
  legit := fun tvs blks K r h => by
    split at h
    · obtain ⟨x, hx, hk⟩ := Option.bind_eq_some_iff.1 h
      refine ⟨_, ?_, hk⟩
      simp only [hx, Option.bind_some]
    · simp at h
noncomputable def env_transomref36_Unquote (g14 : ByteArray → Option ByteArray) (g23 : Int → Option Int) (s0 : ByteArray → Int → (List Int) → Option (ByteArray × Int)) (s1 : ByteArray → Int → Int → Bool → (List Int) → Option (ByteArray × Int)) (s2 : ByteArray → Int → Int → Bool → (List Int) → Option (ByteArray × Int)) (s3 : ByteArray → Int → Int → (List Int) → Option (ByteArray × Int)) (s4 : ByteArray → Int → (List Int) → Option (ByteArray × Int)) : FEnv := { P := Go.Proofs.Try.prog, ct := fun m => if m = 14 then some (ct_transomref36_Quote g14) else if m = 23 then some (ct_transomref36_value g23) else none, N := 73, body := Go.Proofs.Try.f13.body.getD .skip, rvs := [.tmp 2, .tmp 3], rts := [9, 3], nin := 0, rmv := [], segs := [seg_transomref36_Unquote_0 s0, seg_transomref36_Unquote_1 s1, seg_transomref36_Unquote_2 s2, seg_transomref36_Unquote_3 s3, seg_transomref36_Unquote_4 s4] }
def transomref36_Unquote.c {β : Type} (g14 : ByteArray → Option ByteArray) (g23 : Int → Option Int) (s0 : ByteArray → Int → (List Int) → Option (ByteArray × Int)) (s1 : ByteArray → Int → Int → Bool → (List Int) → Option (ByteArray × Int)) (s2 : ByteArray → Int → Int → Bool → (List Int) → Option (ByteArray × Int)) (s3 : ByteArray → Int → Int → (List Int) → Option (ByteArray × Int)) (s4 : ByteArray → Int → (List Int) → Option (ByteArray × Int)) (a0 : ByteArray) (ret : (ByteArray × Int) → Option β) : Option β := (bif (decide (((ByteArray.size a0) : Int) < (2 : Int))) then (ret ((ByteArray.mk (List.toArray [])), (7 : Int))) else ((s0 a0 (1 : Int) []).bind ret))
def transomref36_Unquote.s0c {β : Type} (g14 : ByteArray → Option ByteArray) (g23 : Int → Option Int) (s0 : ByteArray → Int → (List Int) → Option (ByteArray × Int)) (s1 : ByteArray → Int → Int → Bool → (List Int) → Option (ByteArray × Int)) (s2 : ByteArray → Int → Int → Bool → (List Int) → Option (ByteArray × Int)) (s3 : ByteArray → Int → Int → (List Int) → Option (ByteArray × Int)) (s4 : ByteArray → Int → (List Int) → Option (ByteArray × Int)) (x0 : ByteArray) (x1 : Int) (x2 : List Int) (ret : (ByteArray × Int) → Option β) : Option β := (bif (decide (x1 < (IntKind.wrap IntKind.i64 (((ByteArray.size x0) : Int) - (1 : Int))))) then (bif ((decide ((0 : Int) ≤ x1)) && (decide (x1 < ((ByteArray.size x0) : Int)))) then (bif ((bt x0 x1) == (92 : Int)) then ((s1 x0 x1 (bt x0 x1) (decide ((IntKind.wrap IntKind.i64 (x1 + (1 : Int))) < (IntKind.wrap IntKind.i64 (((ByteArray.size x0) : Int) - (1 : Int))))) x2).bind ret) else ((s1 x0 x1 (bt x0 x1) false x2).bind ret)) else none) else ((g14 (ByteArray.mk (List.toArray (List.map (fun n => (UInt8.ofNat (Int.toNat n))) x2)))).bind fun r0 => (bif (!((ByteArray.toList r0) == (ByteArray.toList x0))) then (ret ((ByteArray.mk (List.toArray [])), (7 : Int))) else (ret ((ByteArray.mk (List.toArray (List.map (fun n => (UInt8.ofNat (Int.toNat n))) x2))), (0 : Int))))))
def transomref36_Unquote.s1c {β : Type} (g14 : ByteArray → Option ByteArray) (g23 : Int → Option Int) (s0 : ByteArray → Int → (List Int) → Option (ByteArray × Int)) (s1 : ByteArray → Int → Int → Bool → (List Int) → Option (ByteArray × Int)) (s2 : ByteArray → Int → Int → Bool → (List Int) → Option (ByteArray × Int)) (s3 : ByteArray → Int → Int → (List Int) → Option (ByteArray × Int)) (s4 : ByteArray → Int → (List Int) → Option (ByteArray × Int)) (x0 : ByteArray) (x1 : Int) (x2 : Int) (x3 : Bool) (x4 : List Int) (ret : (ByteArray × Int) → Option β) : Option β := (bif x3 then (bif ((decide ((0 : Int) ≤ (IntKind.wrap IntKind.i64 (x1 + (1 : Int))))) && (decide ((IntKind.wrap IntKind.i64 (x1 + (1 : Int))) < ((ByteArray.size x0) : Int)))) then (bif ((bt x0 (IntKind.wrap IntKind.i64 (x1 + (1 : Int)))) == (120 : Int)) then ((s2 x0 (IntKind.wrap IntKind.i64 (x1 + (1 : Int))) (bt x0 (IntKind.wrap IntKind.i64 (x1 + (1 : Int)))) (decide ((IntKind.wrap IntKind.i64 ((IntKind.wrap IntKind.i64 (x1 + (1 : Int))) + (2 : Int))) < (IntKind.wrap IntKind.i64 (((ByteArray.size x0) : Int) - (1 : Int))))) x4).bind ret) else ((s2 x0 (IntKind.wrap IntKind.i64 (x1 + (1 : Int))) (bt x0 (IntKind.wrap IntKind.i64 (x1 + (1 : Int)))) false x4).bind ret)) else none) else ((s3 x0 x1 x2 x4).bind ret))
def transomref36_Unquote.s2c {β : Type} (g14 : ByteArray → Option ByteArray) (g23 : Int → Option Int) (s0 : ByteArray → Int → (List Int) → Option (ByteArray × Int)) (s1 : ByteArray → Int → Int → Bool → (List Int) → Option (ByteArray × Int)) (s2 : ByteArray → Int → Int → Bool → (List Int) → Option (ByteArray × Int)) (s3 : ByteArray → Int → Int → (List Int) → Option (ByteArray × Int)) (s4 : ByteArray → Int → (List Int) → Option (ByteArray × Int)) (x0 : ByteArray) (x1 : Int) (x2 : Int) (x3 : Bool) (x4 : List Int) (ret : (ByteArray × Int) → Option β) : Option β := (bif x3 then (bif ((decide ((0 : Int) ≤ (IntKind.wrap IntKind.i64 (x1 + (1 : Int))))) && (decide ((IntKind.wrap IntKind.i64 (x1 + (1 : Int))) < ((ByteArray.size x0) : Int)))) then ((g23 (bt x0 (IntKind.wrap IntKind.i64 (x1 + (1 : Int))))).bind fun r0 => (bif ((decide ((0 : Int) ≤ (IntKind.wrap IntKind.i64 (x1 + (2 : Int))))) && (decide ((IntKind.wrap IntKind.i64 (x1 + (2 : Int))) < ((ByteArray.size x0) : Int)))) then ((g23 (bt x0 (IntKind.wrap IntKind.i64 (x1 + (2 : Int))))).bind fun r1 => ((s3 x0 (IntKind.wrap IntKind.i64 (x1 + (2 : Int))) (IntKind.wrap IntKind.u8 (IntKind.wrap IntKind.i64 ((IntKind.wrap IntKind.i64 ((if ((0 : Int) > r0) then (0 : Int) else r0) * (16 : Int))) + (if ((0 : Int) > r1) then (0 : Int) else r1)))) x4).bind ret)) else none)) else none) else ((s3 x0 x1 x2 x4).bind ret))
def transomref36_Unquote.s3c {β : Type} (g14 : ByteArray → Option ByteArray) (g23 : Int → Option Int) (s0 : ByteArray → Int → (List Int) → Option (ByteArray × Int)) (s1 : ByteArray → Int → Int → Bool → (List Int) → Option (ByteArray × Int)) (s2 : ByteArray → Int → Int → Bool → (List Int) → Option (ByteArray × Int)) (s3 : ByteArray → Int → Int → (List Int) → Option (ByteArray × Int)) (s4 : ByteArray → Int → (List Int) → Option (ByteArray × Int)) (x0 : ByteArray) (x1 : Int) (x2 : Int) (x3 : List Int) (ret : (ByteArray × Int) → Option β) : Option β := (bif (decide ((((List.length x3) + (1 : Nat)) * (1 : Nat)) ≤ (35184372088832 : Nat))) then ((s4 x0 x1 (x3 ++ [x2])).bind ret) else none)
def transomref36_Unquote.s4c {β : Type} (g14 : ByteArray → Option ByteArray) (g23 : Int → Option Int) (s0 : ByteArray → Int → (List Int) → Option (ByteArray × Int)) (s1 : ByteArray → Int → Int → Bool → (List Int) → Option (ByteArray × Int)) (s2 : ByteArray → Int → Int → Bool → (List Int) → Option (ByteArray × Int)) (s3 : ByteArray → Int → Int → (List Int) → Option (ByteArray × Int)) (s4 : ByteArray → Int → (List Int) → Option (ByteArray × Int)) (x0 : ByteArray) (x1 : Int) (x2 : List Int) (ret : (ByteArray × Int) → Option β) : Option β := ((s0 x0 (IntKind.wrap IntKind.i64 (x1 + (1 : Int))) x2).bind ret)
theorem transomref36_Unquote.c_bind {β : Type} (g14 : ByteArray → Option ByteArray) (g23 : Int → Option Int) (s0 : ByteArray → Int → (List Int) → Option (ByteArray × Int)) (s1 : ByteArray → Int → Int → Bool → (List Int) → Option (ByteArray × Int)) (s2 : ByteArray → Int → Int → Bool → (List Int) → Option (ByteArray × Int)) (s3 : ByteArray → Int → Int → (List Int) → Option (ByteArray × Int)) (s4 : ByteArray → Int → (List Int) → Option (ByteArray × Int)) (a0 : ByteArray) (ret : (ByteArray × Int) → Option β) : transomref36_Unquote.c g14 g23 s0 s1 s2 s3 s4 a0 ret = (transomref36_Unquote.c g14 g23 s0 s1 s2 s3 s4 a0 some).bind ret := by
  simp only [transomref36_Unquote.c, bif_bind, sum_bind, Option.bind_assoc, Option.bind_some, Option.bind_none, Option.bind_fun_some]
theorem transomref36_Unquote.s0c_bind {β : Type} (g14 : ByteArray → Option ByteArray) (g23 : Int → Option Int) (s0 : ByteArray → Int → (List Int) → Option (ByteArray × Int)) (s1 : ByteArray → Int → Int → Bool → (List Int) → Option (ByteArray × Int)) (s2 : ByteArray → Int → Int → Bool → (List Int) → Option (ByteArray × Int)) (s3 : ByteArray → Int → Int → (List Int) → Option (ByteArray × Int)) (s4 : ByteArray → Int → (List Int) → Option (ByteArray × Int)) (x0 : ByteArray) (x1 : Int) (x2 : List Int) (ret : (ByteArray × Int) → Option β) : transomref36_Unquote.s0c g14 g23 s0 s1 s2 s3 s4 x0 x1 x2 ret = (transomref36_Unquote.s0c g14 g23 s0 s1 s2 s3 s4 x0 x1 x2 some).bind ret := by
  simp only [transomref36_Unquote.s0c, bif_bind, sum_bind, Option.bind_assoc, Option.bind_some, Option.bind_none, Option.bind_fun_some]
theorem transomref36_Unquote.s1c_bind {β : Type} (g14 : ByteArray → Option ByteArray) (g23 : Int → Option Int) (s0 : ByteArray → Int → (List Int) → Option (ByteArray × Int)) (s1 : ByteArray → Int → Int → Bool → (List Int) → Option (ByteArray × Int)) (s2 : ByteArray → Int → Int → Bool → (List Int) → Option (ByteArray × Int)) (s3 : ByteArray → Int → Int → (List Int) → Option (ByteArray × Int)) (s4 : ByteArray → Int → (List Int) → Option (ByteArray × Int)) (x0 : ByteArray) (x1 : Int) (x2 : Int) (x3 : Bool) (x4 : List Int) (ret : (ByteArray × Int) → Option β) : transomref36_Unquote.s1c g14 g23 s0 s1 s2 s3 s4 x0 x1 x2 x3 x4 ret = (transomref36_Unquote.s1c g14 g23 s0 s1 s2 s3 s4 x0 x1 x2 x3 x4 some).bind ret := by
  simp only [transomref36_Unquote.s1c, bif_bind, sum_bind, Option.bind_assoc, Option.bind_some, Option.bind_none, Option.bind_fun_some]
theorem transomref36_Unquote.s2c_bind {β : Type} (g14 : ByteArray → Option ByteArray) (g23 : Int → Option Int) (s0 : ByteArray → Int → (List Int) → Option (ByteArray × Int)) (s1 : ByteArray → Int → Int → Bool → (List Int) → Option (ByteArray × Int)) (s2 : ByteArray → Int → Int → Bool → (List Int) → Option (ByteArray × Int)) (s3 : ByteArray → Int → Int → (List Int) → Option (ByteArray × Int)) (s4 : ByteArray → Int → (List Int) → Option (ByteArray × Int)) (x0 : ByteArray) (x1 : Int) (x2 : Int) (x3 : Bool) (x4 : List Int) (ret : (ByteArray × Int) → Option β) : transomref36_Unquote.s2c g14 g23 s0 s1 s2 s3 s4 x0 x1 x2 x3 x4 ret = (transomref36_Unquote.s2c g14 g23 s0 s1 s2 s3 s4 x0 x1 x2 x3 x4 some).bind ret := by
  simp only [transomref36_Unquote.s2c, bif_bind, sum_bind, Option.bind_assoc, Option.bind_some, Option.bind_none, Option.bind_fun_some]
theorem transomref36_Unquote.s3c_bind {β : Type} (g14 : ByteArray → Option ByteArray) (g23 : Int → Option Int) (s0 : ByteArray → Int → (List Int) → Option (ByteArray × Int)) (s1 : ByteArray → Int → Int → Bool → (List Int) → Option (ByteArray × Int)) (s2 : ByteArray → Int → Int → Bool → (List Int) → Option (ByteArray × Int)) (s3 : ByteArray → Int → Int → (List Int) → Option (ByteArray × Int)) (s4 : ByteArray → Int → (List Int) → Option (ByteArray × Int)) (x0 : ByteArray) (x1 : Int) (x2 : Int) (x3 : List Int) (ret : (ByteArray × Int) → Option β) : transomref36_Unquote.s3c g14 g23 s0 s1 s2 s3 s4 x0 x1 x2 x3 ret = (transomref36_Unquote.s3c g14 g23 s0 s1 s2 s3 s4 x0 x1 x2 x3 some).bind ret := by
  simp only [transomref36_Unquote.s3c, bif_bind, sum_bind, Option.bind_assoc, Option.bind_some, Option.bind_none, Option.bind_fun_some]
theorem transomref36_Unquote.s4c_bind {β : Type} (g14 : ByteArray → Option ByteArray) (g23 : Int → Option Int) (s0 : ByteArray → Int → (List Int) → Option (ByteArray × Int)) (s1 : ByteArray → Int → Int → Bool → (List Int) → Option (ByteArray × Int)) (s2 : ByteArray → Int → Int → Bool → (List Int) → Option (ByteArray × Int)) (s3 : ByteArray → Int → Int → (List Int) → Option (ByteArray × Int)) (s4 : ByteArray → Int → (List Int) → Option (ByteArray × Int)) (x0 : ByteArray) (x1 : Int) (x2 : List Int) (ret : (ByteArray × Int) → Option β) : transomref36_Unquote.s4c g14 g23 s0 s1 s2 s3 s4 x0 x1 x2 ret = (transomref36_Unquote.s4c g14 g23 s0 s1 s2 s3 s4 x0 x1 x2 some).bind ret := by
  simp only [transomref36_Unquote.s4c, bif_bind, sum_bind, Option.bind_assoc, Option.bind_some, Option.bind_none, Option.bind_fun_some]
theorem transomref36_Unquote.ev (g14 : ByteArray → Option ByteArray) (g23 : Int → Option Int) (s0 : ByteArray → Int → (List Int) → Option (ByteArray × Int)) (s1 : ByteArray → Int → Int → Bool → (List Int) → Option (ByteArray × Int)) (s2 : ByteArray → Int → Int → Bool → (List Int) → Option (ByteArray × Int)) (s3 : ByteArray → Int → Int → (List Int) → Option (ByteArray × Int)) (s4 : ByteArray → Int → (List Int) → Option (ByteArray × Int)) (a0 : ByteArray) : evAt (env_transomref36_Unquote g14 g23 s0 s1 s2 s3 s4) [] [0] [.v (.one (.d .str a0))] [] some = transomref36_Unquote.c g14 g23 s0 s1 s2 s3 s4 a0 (fun r => some ⟨.tup [(.one (.d .str r.1)), (.one (.d (.int .i64) r.2))], []⟩) := by
  kernel_rfl
theorem transomref36_Unquote.s0_ev (g14 : ByteArray → Option ByteArray) (g23 : Int → Option Int) (s0 : ByteArray → Int → (List Int) → Option (ByteArray × Int)) (s1 : ByteArray → Int → Int → Bool → (List Int) → Option (ByteArray × Int)) (s2 : ByteArray → Int → Int → Bool → (List Int) → Option (ByteArray × Int)) (s3 : ByteArray → Int → Int → (List Int) → Option (ByteArray × Int)) (s4 : ByteArray → Int → (List Int) → Option (ByteArray × Int)) (x0 : ByteArray) (x1 : Int) (x2 : List Int) : evAt (env_transomref36_Unquote g14 g23 s0 s1 s2 s3 s4) [4, 1, 0, 1, 1, 1] [0, 4, 5] [.v (.one (.d .str x0)), .v (.one (.own 0)), .v (.one (.d (.int .i64) x1))] [some (.own (.int .u8) false x2)] some = transomref36_Unquote.s0c g14 g23 s0 s1 s2 s3 s4 x0 x1 x2 (fun r => some ⟨.tup [(.one (.d .str r.1)), (.one (.d (.int .i64) r.2))], []⟩) := by
  kernel_rfl
theorem transomref36_Unquote.s1_ev (g14 : ByteArray → Option ByteArray) (g23 : Int → Option Int) (s0 : ByteArray → Int → (List Int) → Option (ByteArray × Int)) (s1 : ByteArray → Int → Int → Bool → (List Int) → Option (ByteArray × Int)) (s2 : ByteArray → Int → Int → Bool → (List Int) → Option (ByteArray × Int)) (s3 : ByteArray → Int → Int → (List Int) → Option (ByteArray × Int)) (s4 : ByteArray → Int → (List Int) → Option (ByteArray × Int)) (x0 : ByteArray) (x1 : Int) (x2 : Int) (x3 : Bool) (x4 : List Int) : evAt (env_transomref36_Unquote g14 g23 s0 s1 s2 s3 s4) [1, 0, 1, 4, 0, 1, 5, 4, 1, 0, 1, 1, 1] [0, 4, 5, 6, 29] [.v (.one (.d .str x0)), .v (.one (.own 0)), .v (.one (.d (.int .i64) x1)), .v (.one (.d (.int .u8) x2)), .v (.one (.d .bool x3))] [some (.own (.int .u8) false x4)] some = transomref36_Unquote.s1c g14 g23 s0 s1 s2 s3 s4 x0 x1 x2 x3 x4 (fun r => some ⟨.tup [(.one (.d .str r.1)), (.one (.d (.int .i64) r.2))], []⟩) := by
  kernel_rfl
theorem transomref36_Unquote.s2_ev (g14 : ByteArray → Option ByteArray) (g23 : Int → Option Int) (s0 : ByteArray → Int → (List Int) → Option (ByteArray × Int)) (s1 : ByteArray → Int → Int → Bool → (List Int) → Option (ByteArray × Int)) (s2 : ByteArray → Int → Int → Bool → (List Int) → Option (ByteArray × Int)) (s3 : ByteArray → Int → Int → (List Int) → Option (ByteArray × Int)) (s4 : ByteArray → Int → (List Int) → Option (ByteArray × Int)) (x0 : ByteArray) (x1 : Int) (x2 : Int) (x3 : Bool) (x4 : List Int) : evAt (env_transomref36_Unquote g14 g23 s0 s1 s2 s3 s4) [1, 1, 1, 2, 1, 0, 1, 4, 0, 1, 5, 4, 1, 0, 1, 1, 1] [0, 4, 5, 6, 44] [.v (.one (.d .str x0)), .v (.one (.own 0)), .v (.one (.d (.int .i64) x1)), .v (.one (.d (.int .u8) x2)), .v (.one (.d .bool x3))] [some (.own (.int .u8) false x4)] some = transomref36_Unquote.s2c g14 g23 s0 s1 s2 s3 s4 x0 x1 x2 x3 x4 (fun r => some ⟨.tup [(.one (.d .str r.1)), (.one (.d (.int .i64) r.2))], []⟩) := by
  kernel_rfl
theorem transomref36_Unquote.s3_ev (g14 : ByteArray → Option ByteArray) (g23 : Int → Option Int) (s0 : ByteArray → Int → (List Int) → Option (ByteArray × Int)) (s1 : ByteArray → Int → Int → Bool → (List Int) → Option (ByteArray × Int)) (s2 : ByteArray → Int → Int → Bool → (List Int) → Option (ByteArray × Int)) (s3 : ByteArray → Int → Int → (List Int) → Option (ByteArray × Int)) (s4 : ByteArray → Int → (List Int) → Option (ByteArray × Int)) (x0 : ByteArray) (x1 : Int) (x2 : Int) (x3 : List Int) : evAt (env_transomref36_Unquote g14 g23 s0 s1 s2 s3 s4) [1, 1, 4, 0, 1, 5, 4, 1, 0, 1, 1, 1] [0, 4, 5, 6] [.v (.one (.d .str x0)), .v (.one (.own 0)), .v (.one (.d (.int .i64) x1)), .v (.one (.d (.int .u8) x2))] [some (.own (.int .u8) false x3)] some = transomref36_Unquote.s3c g14 g23 s0 s1 s2 s3 s4 x0 x1 x2 x3 (fun r => some ⟨.tup [(.one (.d .str r.1)), (.one (.d (.int .i64) r.2))], []⟩) := by
  kernel_rfl
theorem transomref36_Unquote.s4_ev (g14 : ByteArray → Option ByteArray) (g23 : Int → Option Int) (s0 : ByteArray → Int → (List Int) → Option (ByteArray × Int)) (s1 : ByteArray → Int → Int → Bool → (List Int) → Option (ByteArray × Int)) (s2 : ByteArray → Int → Int → Bool → (List Int) → Option (ByteArray × Int)) (s3 : ByteArray → Int → Int → (List Int) → Option (ByteArray × Int)) (s4 : ByteArray → Int → (List Int) → Option (ByteArray × Int)) (x0 : ByteArray) (x1 : Int) (x2 : List Int) : evAt (env_transomref36_Unquote g14 g23 s0 s1 s2 s3 s4) [1, 1, 5, 4, 1, 0, 1, 1, 1] [0, 4, 5] [.v (.one (.d .str x0)), .v (.one (.own 0)), .v (.one (.d (.int .i64) x1))] [some (.own (.int .u8) false x2)] some = transomref36_Unquote.s4c g14 g23 s0 s1 s2 s3 s4 x0 x1 x2 (fun r => some ⟨.tup [(.one (.d .str r.1)), (.one (.d (.int .i64) r.2))], []⟩) := by
  kernel_rfl
mutual
def transomref36_Unquote.s0 : Nat → ByteArray → Int → (List Int) → Option (ByteArray × Int)
  | 0, _, _, _ => none
  | k + 1, x0, x1, x2 => transomref36_Unquote.s0c (transomref36_Quote.f k) (transomref36_value.f k) (transomref36_Unquote.s0 k) (transomref36_Unquote.s1 k) (transomref36_Unquote.s2 k) (transomref36_Unquote.s3 k) (transomref36_Unquote.s4 k) x0 x1 x2 some
def transomref36_Unquote.s1 : Nat → ByteArray → Int → Int → Bool → (List Int) → Option (ByteArray × Int)
  | 0, _, _, _, _, _ => none
  | k + 1, x0, x1, x2, x3, x4 => transomref36_Unquote.s1c (transomref36_Quote.f k) (transomref36_value.f k) (transomref36_Unquote.s0 k) (transomref36_Unquote.s1 k) (transomref36_Unquote.s2 k) (transomref36_Unquote.s3 k) (transomref36_Unquote.s4 k) x0 x1 x2 x3 x4 some
def transomref36_Unquote.s2 : Nat → ByteArray → Int → Int → Bool → (List Int) → Option (ByteArray × Int)
  | 0, _, _, _, _, _ => none
  | k + 1, x0, x1, x2, x3, x4 => transomref36_Unquote.s2c (transomref36_Quote.f k) (transomref36_value.f k) (transomref36_Unquote.s0 k) (transomref36_Unquote.s1 k) (transomref36_Unquote.s2 k) (transomref36_Unquote.s3 k) (transomref36_Unquote.s4 k) x0 x1 x2 x3 x4 some
def transomref36_Unquote.s3 : Nat → ByteArray → Int → Int → (List Int) → Option (ByteArray × Int)
  | 0, _, _, _, _ => none
  | k + 1, x0, x1, x2, x3 => transomref36_Unquote.s3c (transomref36_Quote.f k) (transomref36_value.f k) (transomref36_Unquote.s0 k) (transomref36_Unquote.s1 k) (transomref36_Unquote.s2 k) (transomref36_Unquote.s3 k) (transomref36_Unquote.s4 k) x0 x1 x2 x3 some
def transomref36_Unquote.s4 : Nat → ByteArray → Int → (List Int) → Option (ByteArray × Int)
  | 0, _, _, _ => none
  | k + 1, x0, x1, x2 => transomref36_Unquote.s4c (transomref36_Quote.f k) (transomref36_value.f k) (transomref36_Unquote.s0 k) (transomref36_Unquote.s1 k) (transomref36_Unquote.s2 k) (transomref36_Unquote.s3 k) (transomref36_Unquote.s4 k) x0 x1 x2 some
end
def transomref36_Unquote.f (k : Nat) (a0 : ByteArray) : Option (ByteArray × Int) := transomref36_Unquote.c (transomref36_Quote.f k) (transomref36_value.f k) (transomref36_Unquote.s0 k) (transomref36_Unquote.s1 k) (transomref36_Unquote.s2 k) (transomref36_Unquote.s3 k) (transomref36_Unquote.s4 k) a0 some
theorem transomref36_Unquote.is (g14 : ByteArray → Option ByteArray) (g23 : Int → Option Int) (s0 : ByteArray → Int → (List Int) → Option (ByteArray × Int)) (s1 : ByteArray → Int → Int → Bool → (List Int) → Option (ByteArray × Int)) (s2 : ByteArray → Int → Int → Bool → (List Int) → Option (ByteArray × Int)) (s3 : ByteArray → Int → Int → (List Int) → Option (ByteArray × Int)) (s4 : ByteArray → Int → (List Int) → Option (ByteArray × Int)) : FnIs (env_transomref36_Unquote g14 g23 s0 s1 s2 s3 s4) 13 Go.Proofs.Try.f13 := ⟨Go.Proofs.Try.func13, rfl, rfl, rfl, by decide⟩
theorem transomref36_Unquote.envok (g14 : ByteArray → Option ByteArray) (g23 : Int → Option Int) (s0 : ByteArray → Int → (List Int) → Option (ByteArray × Int)) (s1 : ByteArray → Int → Int → Bool → (List Int) → Option (ByteArray × Int)) (s2 : ByteArray → Int → Int → Bool → (List Int) → Option (ByteArray × Int)) (s3 : ByteArray → Int → Int → (List Int) → Option (ByteArray × Int)) (s4 : ByteArray → Int → (List Int) → Option (ByteArray × Int)) (h14 : CtOK Go.Proofs.Try.prog 14 (ct_transomref36_Quote g14)) (h23 : CtOK Go.Proofs.Try.prog 23 (ct_transomref36_value g23)) : EnvOK (env_transomref36_Unquote g14 g23 s0 s1 s2 s3 s4).toEnv := by
  intro f c h
  simp only [env_transomref36_Unquote] at h
  split at h
  · rename_i e; subst e; cases h; exact h14
  split at h
  · rename_i e; subst e; cases h; exact h23
  simp at h
theorem transomref36_Unquote.segs_ok : ∀ k, ∀ s ∈ (env_transomref36_Unquote (transomref36_Quote.f k) (transomref36_value.f k) (transomref36_Unquote.s0 k) (transomref36_Unquote.s1 k) (transomref36_Unquote.s2 k) (transomref36_Unquote.s3 k) (transomref36_Unquote.s4 k)).segs, SegOK (env_transomref36_Unquote (transomref36_Quote.f k) (transomref36_value.f k) (transomref36_Unquote.s0 k) (transomref36_Unquote.s1 k) (transomref36_Unquote.s2 k) (transomref36_Unquote.s3 k) (transomref36_Unquote.s4 k)) Go.Proofs.Try.f13 s
  | 0 => by
    intro s hs
    simp only [env_transomref36_Unquote, List.mem_cons, List.not_mem_nil, or_false] at hs
    rcases hs with rfl | rfl | rfl | rfl | rfl
    · intro tvs blks res h; exfalso; simp only [seg_transomref36_Unquote_0] at h; split at h <;> simp [transomref36_Unquote.s0] at h
    · intro tvs blks res h; exfalso; simp only [seg_transomref36_Unquote_1] at h; split at h <;> simp [transomref36_Unquote.s1] at h
    · intro tvs blks res h; exfalso; simp only [seg_transomref36_Unquote_2] at h; split at h <;> simp [transomref36_Unquote.s2] at h
    · intro tvs blks res h; exfalso; simp only [seg_transomref36_Unquote_3] at h; split at h <;> simp [transomref36_Unquote.s3] at h
    · intro tvs blks res h; exfalso; simp only [seg_transomref36_Unquote_4] at h; split at h <;> simp [transomref36_Unquote.s4] at h
  | k + 1 => by
    have ih := transomref36_Unquote.segs_ok k
    intro s hs
    simp only [env_transomref36_Unquote, List.mem_cons, List.not_mem_nil, or_false] at hs
    rcases hs with rfl | rfl | rfl | rfl | rfl
    · refine seg_of_ev (E := env_transomref36_Unquote (transomref36_Quote.f k) (transomref36_value.f k) (transomref36_Unquote.s0 k) (transomref36_Unquote.s1 k) (transomref36_Unquote.s2 k) (transomref36_Unquote.s3 k) (transomref36_Unquote.s4 k)) (transomref36_Unquote.envok _ _ _ _ _ _ _  (transomref36_Quote.ok k) (transomref36_value.ok k)) ⟨(transomref36_Unquote.is (transomref36_Quote.f k) (transomref36_value.f k) (transomref36_Unquote.s0 k) (transomref36_Unquote.s1 k) (transomref36_Unquote.s2 k) (transomref36_Unquote.s3 k) (transomref36_Unquote.s4 k)).rvs⟩ ih ?_
      intro tvs blks res h
      simp only [seg_transomref36_Unquote_0] at h
      split at h
      · refine (transomref36_Unquote.s0_ev (transomref36_Quote.f k) (transomref36_value.f k) (transomref36_Unquote.s0 k) (transomref36_Unquote.s1 k) (transomref36_Unquote.s2 k) (transomref36_Unquote.s3 k) (transomref36_Unquote.s4 k) _ _ _ ).trans ?_
        rw [transomref36_Unquote.s0c_bind]
        exact h
      · simp at h
    · refine seg_of_ev (E := env_transomref36_Unquote (transomref36_Quote.f k) (transomref36_value.f k) (transomref36_Unquote.s0 k) (transomref36_Unquote.s1 k) (transomref36_Unquote.s2 k) (transomref36_Unquote.s3 k) (transomref36_Unquote.s4 k)) (transomref36_Unquote.envok _ _ _ _ _ _ _  (transomref36_Quote.ok k) (transomref36_value.ok k)) ⟨(transomref36_Unquote.is (transomref36_Quote.f k) (transomref36_value.f k) (transomref36_Unquote.s0 k) (transomref36_Unquote.s1 k) (transomref36_Unquote.s2 k) (transomref36_Unquote.s3 k) (transomref36_Unquote.s4 k)).rvs⟩ ih ?_
      intro tvs blks res h
      simp only [seg_transomref36_Unquote_1] at h
      split at h
      · refine (transomref36_Unquote.s1_ev (transomref36_Quote.f k) (transomref36_value.f k) (transomref36_Unquote.s0 k) (transomref36_Unquote.s1 k) (transomref36_Unquote.s2 k) (transomref36_Unquote.s3 k) (transomref36_Unquote.s4 k) _ _ _ _ _ ).trans ?_
        rw [transomref36_Unquote.s1c_bind]
        exact h
      · simp at h
    · refine seg_of_ev (E := env_transomref36_Unquote (transomref36_Quote.f k) (transomref36_value.f k) (transomref36_Unquote.s0 k) (transomref36_Unquote.s1 k) (transomref36_Unquote.s2 k) (transomref36_Unquote.s3 k) (transomref36_Unquote.s4 k)) (transomref36_Unquote.envok _ _ _ _ _ _ _  (transomref36_Quote.ok k) (transomref36_value.ok k)) ⟨(transomref36_Unquote.is (transomref36_Quote.f k) (transomref36_value.f k) (transomref36_Unquote.s0 k) (transomref36_Unquote.s1 k) (transomref36_Unquote.s2 k) (transomref36_Unquote.s3 k) (transomref36_Unquote.s4 k)).rvs⟩ ih ?_
      intro tvs blks res h
      simp only [seg_transomref36_Unquote_2] at h
      split at h
      · refine (transomref36_Unquote.s2_ev (transomref36_Quote.f k) (transomref36_value.f k) (transomref36_Unquote.s0 k) (transomref36_Unquote.s1 k) (transomref36_Unquote.s2 k) (transomref36_Unquote.s3 k) (transomref36_Unquote.s4 k) _ _ _ _ _ ).trans ?_
        rw [transomref36_Unquote.s2c_bind]
        exact h
      · simp at h
    · refine seg_of_ev (E := env_transomref36_Unquote (transomref36_Quote.f k) (transomref36_value.f k) (transomref36_Unquote.s0 k) (transomref36_Unquote.s1 k) (transomref36_Unquote.s2 k) (transomref36_Unquote.s3 k) (transomref36_Unquote.s4 k)) (transomref36_Unquote.envok _ _ _ _ _ _ _  (transomref36_Quote.ok k) (transomref36_value.ok k)) ⟨(transomref36_Unquote.is (transomref36_Quote.f k) (transomref36_value.f k) (transomref36_Unquote.s0 k) (transomref36_Unquote.s1 k) (transomref36_Unquote.s2 k) (transomref36_Unquote.s3 k) (transomref36_Unquote.s4 k)).rvs⟩ ih ?_
      intro tvs blks res h
      simp only [seg_transomref36_Unquote_3] at h
      split at h
      · refine (transomref36_Unquote.s3_ev (transomref36_Quote.f k) (transomref36_value.f k) (transomref36_Unquote.s0 k) (transomref36_Unquote.s1 k) (transomref36_Unquote.s2 k) (transomref36_Unquote.s3 k) (transomref36_Unquote.s4 k) _ _ _ _ ).trans ?_
        rw [transomref36_Unquote.s3c_bind]
        exact h
      · simp at h
    · refine seg_of_ev (E := env_transomref36_Unquote (transomref36_Quote.f k) (transomref36_value.f k) (transomref36_Unquote.s0 k) (transomref36_Unquote.s1 k) (transomref36_Unquote.s2 k) (transomref36_Unquote.s3 k) (transomref36_Unquote.s4 k)) (transomref36_Unquote.envok _ _ _ _ _ _ _  (transomref36_Quote.ok k) (transomref36_value.ok k)) ⟨(transomref36_Unquote.is (transomref36_Quote.f k) (transomref36_value.f k) (transomref36_Unquote.s0 k) (transomref36_Unquote.s1 k) (transomref36_Unquote.s2 k) (transomref36_Unquote.s3 k) (transomref36_Unquote.s4 k)).rvs⟩ ih ?_
      intro tvs blks res h
      simp only [seg_transomref36_Unquote_4] at h
      split at h
      · refine (transomref36_Unquote.s4_ev (transomref36_Quote.f k) (transomref36_value.f k) (transomref36_Unquote.s0 k) (transomref36_Unquote.s1 k) (transomref36_Unquote.s2 k) (transomref36_Unquote.s3 k) (transomref36_Unquote.s4 k) _ _ _ ).trans ?_
        rw [transomref36_Unquote.s4c_bind]
        exact h
      · simp at h
theorem transomref36_Unquote.ok (k : Nat) : CtOK Go.Proofs.Try.prog 13 (ct_transomref36_Unquote (transomref36_Unquote.f k)) := by
  refine ct_of_ev (E := env_transomref36_Unquote (transomref36_Quote.f k) (transomref36_value.f k) (transomref36_Unquote.s0 k) (transomref36_Unquote.s1 k) (transomref36_Unquote.s2 k) (transomref36_Unquote.s3 k) (transomref36_Unquote.s4 k)) (transomref36_Unquote.is _ _ _ _ _ _ _ ) (transomref36_Unquote.envok _ _ _ _ _ _ _  (transomref36_Quote.ok k) (transomref36_value.ok k)) (transomref36_Unquote.segs_ok k) rfl ?_
  intro tvs blks res h
  simp only [ct_transomref36_Unquote] at h
  split at h
  · refine (transomref36_Unquote.ev (transomref36_Quote.f k) (transomref36_value.f k) (transomref36_Unquote.s0 k) (transomref36_Unquote.s1 k) (transomref36_Unquote.s2 k) (transomref36_Unquote.s3 k) (transomref36_Unquote.s4 k) _ ).trans ?_
    rw [transomref36_Unquote.c_bind]
    exact h
  · simp at h
end Go.Proofs.Ytchlbajnmhffpaa.Aev
