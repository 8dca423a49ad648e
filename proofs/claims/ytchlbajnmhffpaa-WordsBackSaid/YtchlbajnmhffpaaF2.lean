/- By a program of this session (AEV): functions of the program as plain functions, and that the machine does what they say. -/
import Derived.Test.YtchlbajnmhffpaaAevW
import Derived.Test.YtchlbajnmhffpaaProg
import Derived.Laws.Externs
import Derived.Lib.Bytealg
import Derived.Test.YtchlbajnmhffpaaF1
namespace Go.Proofs.Ytchlbajnmhffpaa.Aev
set_option linter.unusedVariables false
set_option linter.unusedSimpArgs false
set_option maxRecDepth 100000
set_option maxHeartbeats 4000000
open Go
/-! ### words_Unquote: function 12 -/
def ct_words_Unquote (g : ByteArray → Option (ByteArray × Int)) : Ct where
  nin := 0
  mv := []
  F := fun tvs blks {β} K => match tvs, blks with
    | [.v (.one (.d .str a0))], [] => (g a0).bind fun r => K ⟨.tup [(.one (.d .str r.1)), (.one (.d (.int .i64) r.2))], []⟩
    | _, _ => none
  legit := fun tvs blks K r h => by
    split at h
    · obtain ⟨x, hx, hk⟩ := Option.bind_eq_some_iff.1 h
      refine ⟨_, ?_, hk⟩
      simp only [hx, Option.bind_some]
    · simp at h
def seg_words_Unquote_0 (g : ByteArray → ByteArray → Int → (List Int) → Option (ByteArray × Int)) : Seg where
  path := [4, 1, 0, 1, 1, 1, 1]
  prep := [.own 5 (.int .u8)]
  keep := [0, 4, 5, 6]
  F := fun tvs blks {β} K => match tvs, blks with
    | [.v (.one (.d .str x0)), .v (.one (.d .str x1)), .v (.one (.own 0)), .v (.one (.d (.int .i64) x2))], [some (.own (.int .u8) false x3)] => (g x0 x1 x2 x3).bind fun r => K ⟨.tup [(.one (.d .str r.1)), (.one (.d (.int .i64) r.2))], []⟩
    | _, _ => none
  legit := fun tvs blks K r h => by
    split at h
    · obtain ⟨x, hx, hk⟩ := Option.bind_eq_some_iff.1 h
      refine ⟨_, ?_, hk⟩
      simp only [hx, Option.bind_some]
    · simp at h
def seg_words_Unquote_1 (g : ByteArray → ByteArray → Int → Int → Bool → (List Int) → Option (ByteArray × Int)) : Seg where
  path := [1, 0, 1, 4, 0, 1, 5, 4, 1, 0, 1, 1, 1, 1]
  prep := []
  keep := [0, 4, 5, 6, 7, 34]
  F := fun tvs blks {β} K => match tvs, blks with
    | [.v (.one (.d .str x0)), .v (.one (.d .str x1)), .v (.one (.own 0)), .v (.one (.d (.int .i64) x2)), .v (.one (.d (.int .u8) x3)), .v (.one (.d .bool x4))], [some (.own (.int .u8) false x5)] => (g x0 x1 x2 x3 x4 x5).bind fun r => K ⟨.tup [(.one (.d .str r.1)), (.one (.d (.int .i64) r.2))], []⟩
    | _, _ => none
  legit := fun tvs blks K r h => by
    split at h
    · obtain ⟨x, hx, hk⟩ := Option.bind_eq_some_iff.1 h
      refine ⟨_, ?_, hk⟩
      simp only [hx, Option.bind_some]
    · simp at h
def seg_words_Unquote_2 (g : ByteArray → ByteArray → Int → Int → Bool → (List Int) → Option (ByteArray × Int)) : Seg where
  path := [1, 1, 1, 2, 1, 0, 1, 4, 0, 1, 5, 4, 1, 0, 1, 1, 1, 1]
  prep := []
  keep := [0, 4, 5, 6, 7, 48]
  F := fun tvs blks {β} K => match tvs, blks with
    | [.v (.one (.d .str x0)), .v (.one (.d .str x1)), .v (.one (.own 0)), .v (.one (.d (.int .i64) x2)), .v (.one (.d (.int .u8) x3)), .v (.one (.d .bool x4))], [some (.own (.int .u8) false x5)] => (g x0 x1 x2 x3 x4 x5).bind fun r => K ⟨.tup [(.one (.d .str r.1)), (.one (.d (.int .i64) r.2))], []⟩
    | _, _ => none
  legit := fun tvs blks K r h => by
    split at h
    · obtain ⟨x, hx, hk⟩ := Option.bind_eq_some_iff.1 h
      refine ⟨_, ?_, hk⟩
      simp only [hx, Option.bind_some]
    · simp at h
def seg_words_Unquote_3 (g : ByteArray → ByteArray → Int → Int → (List Int) → Option (ByteArray × Int)) : Seg where
  path := [1, 1, 4, 0, 1, 5, 4, 1, 0, 1, 1, 1, 1]
  prep := []
  keep := [0, 4, 5, 6, 7]
  F := fun tvs blks {β} K => match tvs, blks with
    | [.v (.one (.d .str x0)), .v (.one (.d .str x1)), .v (.one (.own 0)), .v (.one (.d (.int .i64) x2)), .v (.one (.d (.int .u8) x3))], [some (.own (.int .u8) false x4)] => (g x0 x1 x2 x3 x4).bind fun r => K ⟨.tup [(.one (.d .str r.1)), (.one (.d (.int .i64) r.2))], []⟩
    | _, _ => none
  legit := fun tvs blks K r h => by
    split at h
    · obtain ⟨x, hx, hk⟩ := Option.bind_eq_some_iff.1 h
      refine ⟨_, ?_, hk⟩
      simp only [hx, Option.bind_some]
    · simp at h
def seg_words_Unquote_4 (g : ByteArray → ByteArray → Int → (List Int) → Option (ByteArray × Int)) : Seg where
  path := [1, 1, 5, 4, 1, 0, 1, 1, 1, 1]
  prep := []
  keep := [0, 4, 5, 6]
  F := fun tvs blks {β} K => match tvs, blks with
    | [.v (.one (.d .str x0)), .v (.one (.d .str x1)), .v (.one (.own 0)), .v (.one (.d (.int .i64) x2))], [some (.own (.int .u8) false x3)] => (g x0 x1 x2 x3).bind fun r => K ⟨.tup [(.one (.d .str r.1)), (.one (.d (.int .i64) r.2))], []⟩
    | _, _ => none
  legit := fun tvs blks K r h => by
    split at h
    · obtain ⟨x, hx, hk⟩ := Option.bind_eq_some_iff.1 h
      refine ⟨_, ?_, hk⟩
      simp only [hx, Option.bind_some]
    · simp at h
noncomputable def env_words_Unquote (g11 : ByteArray → Option ByteArray) (g22 : ByteArray → Option Int) (s0 : ByteArray → ByteArray → Int → (List Int) → Option (ByteArray × Int)) (s1 : ByteArray → ByteArray → Int → Int → Bool → (List Int) → Option (ByteArray × Int)) (s2 : ByteArray → ByteArray → Int → Int → Bool → (List Int) → Option (ByteArray × Int)) (s3 : ByteArray → ByteArray → Int → Int → (List Int) → Option (ByteArray × Int)) (s4 : ByteArray → ByteArray → Int → (List Int) → Option (ByteArray × Int)) : FEnv := { P := Go.Proofs.Try.prog, ct := fun m => if m = 11 then some (ct_words_Quote g11) else if m = 22 then some (ct_words_hex g22) else none, N := 69, body := Go.Proofs.Try.f12.body.getD .skip, rvs := [.tmp 2, .tmp 3], rts := [9, 24], nin := 0, rmv := [], segs := [seg_words_Unquote_0 s0, seg_words_Unquote_1 s1, seg_words_Unquote_2 s2, seg_words_Unquote_3 s3, seg_words_Unquote_4 s4] }
def words_Unquote.c {β : Type} (g11 : ByteArray → Option ByteArray) (g22 : ByteArray → Option Int) (s0 : ByteArray → ByteArray → Int → (List Int) → Option (ByteArray × Int)) (s1 : ByteArray → ByteArray → Int → Int → Bool → (List Int) → Option (ByteArray × Int)) (s2 : ByteArray → ByteArray → Int → Int → Bool → (List Int) → Option (ByteArray × Int)) (s3 : ByteArray → ByteArray → Int → Int → (List Int) → Option (ByteArray × Int)) (s4 : ByteArray → ByteArray → Int → (List Int) → Option (ByteArray × Int)) (a0 : ByteArray) (ret : (ByteArray × Int) → Option β) : Option β := (bif (decide (((ByteArray.size a0) : Int) < (2 : Int))) then (ret ((ByteArray.mk (List.toArray [])), (7 : Int))) else (bif ((true && (decide ((1 : Int) ≤ (IntKind.wrap IntKind.i64 (((ByteArray.size a0) : Int) - (1 : Int)))))) && (decide ((IntKind.wrap IntKind.i64 (((ByteArray.size a0) : Int) - (1 : Int))) ≤ ((ByteArray.size a0) : Int)))) then ((s0 a0 (ByteArray.extract a0 (1 : Nat) (Int.toNat (IntKind.wrap IntKind.i64 (((ByteArray.size a0) : Int) - (1 : Int))))) (0 : Int) []).bind ret) else none))
def words_Unquote.s0c {β : Type} (g11 : ByteArray → Option ByteArray) (g22 : ByteArray → Option Int) (s0 : ByteArray → ByteArray → Int → (List Int) → Option (ByteArray × Int)) (s1 : ByteArray → ByteArray → Int → Int → Bool → (List Int) → Option (ByteArray × Int)) (s2 : ByteArray → ByteArray → Int → Int → Bool → (List Int) → Option (ByteArray × Int)) (s3 : ByteArray → ByteArray → Int → Int → (List Int) → Option (ByteArray × Int)) (s4 : ByteArray → ByteArray → Int → (List Int) → Option (ByteArray × Int)) (x0 : ByteArray) (x1 : ByteArray) (x2 : Int) (x3 : List Int) (ret : (ByteArray × Int) → Option β) : Option β := (bif (decide (x2 < ((ByteArray.size x1) : Int))) then (bif ((decide ((0 : Int) ≤ x2)) && (decide (x2 < ((ByteArray.size x1) : Int)))) then (bif ((bt x1 x2) == (92 : Int)) then ((s1 x0 x1 x2 (bt x1 x2) (decide ((IntKind.wrap IntKind.i64 (x2 + (1 : Int))) < ((ByteArray.size x1) : Int))) x3).bind ret) else ((s1 x0 x1 x2 (bt x1 x2) false x3).bind ret)) else none) else ((g11 (ByteArray.mk (List.toArray (List.map (fun n => (UInt8.ofNat (Int.toNat n))) x3)))).bind fun r0 => (bif (!((ByteArray.toList r0) == (ByteArray.toList x0))) then (ret ((ByteArray.mk (List.toArray [])), (7 : Int))) else (ret ((ByteArray.mk (List.toArray (List.map (fun n => (UInt8.ofNat (Int.toNat n))) x3))), (0 : Int))))))
def words_Unquote.s1c {β : Type} (g11 : ByteArray → Option ByteArray) (g22 : ByteArray → Option Int) (s0 : ByteArray → ByteArray → Int → (List Int) → Option (ByteArray × Int)) (s1 : ByteArray → ByteArray → Int → Int → Bool → (List Int) → Option (ByteArray × Int)) (s2 : ByteArray → ByteArray → Int → Int → Bool → (List Int) → Option (ByteArray × Int)) (s3 : ByteArray → ByteArray → Int → Int → (List Int) → Option (ByteArray × Int)) (s4 : ByteArray → ByteArray → Int → (List Int) → Option (ByteArray × Int)) (x0 : ByteArray) (x1 : ByteArray) (x2 : Int) (x3 : Int) (x4 : Bool) (x5 : List Int) (ret : (ByteArray × Int) → Option β) : Option β := (bif x4 then (bif ((decide ((0 : Int) ≤ (IntKind.wrap IntKind.i64 (x2 + (1 : Int))))) && (decide ((IntKind.wrap IntKind.i64 (x2 + (1 : Int))) < ((ByteArray.size x1) : Int)))) then (bif ((bt x1 (IntKind.wrap IntKind.i64 (x2 + (1 : Int)))) == (120 : Int)) then ((s2 x0 x1 (IntKind.wrap IntKind.i64 (x2 + (1 : Int))) (bt x1 (IntKind.wrap IntKind.i64 (x2 + (1 : Int)))) (decide ((IntKind.wrap IntKind.i64 ((IntKind.wrap IntKind.i64 (x2 + (1 : Int))) + (2 : Int))) < ((ByteArray.size x1) : Int))) x5).bind ret) else ((s2 x0 x1 (IntKind.wrap IntKind.i64 (x2 + (1 : Int))) (bt x1 (IntKind.wrap IntKind.i64 (x2 + (1 : Int)))) false x5).bind ret)) else none) else ((s3 x0 x1 x2 x3 x5).bind ret))
def words_Unquote.s2c {β : Type} (g11 : ByteArray → Option ByteArray) (g22 : ByteArray → Option Int) (s0 : ByteArray → ByteArray → Int → (List Int) → Option (ByteArray × Int)) (s1 : ByteArray → ByteArray → Int → Int → Bool → (List Int) → Option (ByteArray × Int)) (s2 : ByteArray → ByteArray → Int → Int → Bool → (List Int) → Option (ByteArray × Int)) (s3 : ByteArray → ByteArray → Int → Int → (List Int) → Option (ByteArray × Int)) (s4 : ByteArray → ByteArray → Int → (List Int) → Option (ByteArray × Int)) (x0 : ByteArray) (x1 : ByteArray) (x2 : Int) (x3 : Int) (x4 : Bool) (x5 : List Int) (ret : (ByteArray × Int) → Option β) : Option β := (bif x4 then (bif (((decide ((0 : Int) ≤ (IntKind.wrap IntKind.i64 (x2 + (1 : Int))))) && (decide ((IntKind.wrap IntKind.i64 (x2 + (1 : Int))) ≤ (IntKind.wrap IntKind.i64 (x2 + (3 : Int)))))) && (decide ((IntKind.wrap IntKind.i64 (x2 + (3 : Int))) ≤ ((ByteArray.size x1) : Int)))) then ((g22 (ByteArray.extract x1 (Int.toNat (IntKind.wrap IntKind.i64 (x2 + (1 : Int)))) (Int.toNat (IntKind.wrap IntKind.i64 (x2 + (3 : Int)))))).bind fun r0 => ((s3 x0 x1 (IntKind.wrap IntKind.i64 (x2 + (2 : Int))) r0 x5).bind ret)) else none) else ((s3 x0 x1 x2 x3 x5).bind ret))
def words_Unquote.s3c {β : Type} (g11 : ByteArray → Option ByteArray) (g22 : ByteArray → Option Int) (s0 : ByteArray → ByteArray → Int → (List Int) → Option (ByteArray × Int)) (s1 : ByteArray → ByteArray → Int → Int → Bool → (List Int) → Option (ByteArray × Int)) (s2 : ByteArray → ByteArray → Int → Int → Bool → (List Int) → Option (ByteArray × Int)) (s3 : ByteArray → ByteArray → Int → Int → (List Int) → Option (ByteArray × Int)) (s4 : ByteArray → ByteArray → Int → (List Int) → Option (ByteArray × Int)) (x0 : ByteArray) (x1 : ByteArray) (x2 : Int) (x3 : Int) (x4 : List Int) (ret : (ByteArray × Int) → Option β) : Option β := (bif (decide ((((List.length x4) + (1 : Nat)) * (1 : Nat)) ≤ (35184372088832 : Nat))) then ((s4 x0 x1 x2 (x4 ++ [x3])).bind ret) else none)
def words_Unquote.s4c {β : Type} (g11 : ByteArray → Option ByteArray) (g22 : ByteArray → Option Int) (s0 : ByteArray → ByteArray → Int → (List Int) → Option (ByteArray × Int)) (s1 : ByteArray → ByteArray → Int → Int → Bool → (List Int) → Option (ByteArray × Int)) (s2 : ByteArray → ByteArray → Int → Int → Bool → (List Int) → Option (ByteArray × Int)) (s3 : ByteArray → ByteArray → Int → Int → (List Int) → Option (ByteArray × Int)) (s4 : ByteArray → ByteArray → Int → (List Int) → Option (ByteArray × Int)) (x0 : ByteArray) (x1 : ByteArray) (x2 : Int) (x3 : List Int) (ret : (ByteArray × Int) → Option β) : Option β := ((s0 x0 x1 (IntKind.wrap IntKind.i64 (x2 + (1 : Int))) x3).bind ret)
theorem words_Unquote.c_bind {β : Type} (g11 : ByteArray → Option ByteArray) (g22 : ByteArray → Option Int) (s0 : ByteArray → ByteArray → Int → (List Int) → Option (ByteArray × Int)) (s1 : ByteArray → ByteArray → Int → Int → Bool → (List Int) → Option (ByteArray × Int)) (s2 : ByteArray → ByteArray → Int → Int → Bool → (List Int) → Option (ByteArray × Int)) (s3 : ByteArray → ByteArray → Int → Int → (List Int) → Option (ByteArray × Int)) (s4 : ByteArray → ByteArray → Int → (List Int) → Option (ByteArray × Int)) (a0 : ByteArray) (ret : (ByteArray × Int) → Option β) : words_Unquote.c g11 g22 s0 s1 s2 s3 s4 a0 ret = (words_Unquote.c g11 g22 s0 s1 s2 s3 s4 a0 some).bind ret := by
  simp only [words_Unquote.c, bif_bind, sum_bind, Option.bind_assoc, Option.bind_some, Option.bind_none, Option.bind_fun_some]
theorem words_Unquote.s0c_bind {β : Type} (g11 : ByteArray → Option ByteArray) (g22 : ByteArray → Option Int) (s0 : ByteArray → ByteArray → Int → (List Int) → Option (ByteArray × Int)) (s1 : ByteArray → ByteArray → Int → Int → Bool → (List Int) → Option (ByteArray × Int)) (s2 : ByteArray → ByteArray → Int → Int → Bool → (List Int) → Option (ByteArray × Int)) (s3 : ByteArray → ByteArray → Int → Int → (List Int) → Option (ByteArray × Int)) (s4 : ByteArray → ByteArray → Int → (List Int) → Option (ByteArray × Int)) (x0 : ByteArray) (x1 : ByteArray) (x2 : Int) (x3 : List Int) (ret : (ByteArray × Int) → Option β) : words_Unquote.s0c g11 g22 s0 s1 s2 s3 s4 x0 x1 x2 x3 ret = (words_Unquote.s0c g11 g22 s0 s1 s2 s3 s4 x0 x1 x2 x3 some).bind ret := by
  simp only [words_Unquote.s0c, bif_bind, sum_bind, Option.bind_assoc, Option.bind_some, Option.bind_none, Option.bind_fun_some]
theorem words_Unquote.s1c_bind {β : Type} (g11 : ByteArray → Option ByteArray) (g22 : ByteArray → Option Int) (s0 : ByteArray → ByteArray → Int → (List Int) → Option (ByteArray × Int)) (s1 : ByteArray → ByteArray → Int → Int → Bool → (List Int) → Option (ByteArray × Int)) (s2 : ByteArray → ByteArray → Int → Int → Bool → (List Int) → Option (ByteArray × Int)) (s3 : ByteArray → ByteArray → Int → Int → (List Int) → Option (ByteArray × Int)) (s4 : ByteArray → ByteArray → Int → (List Int) → Option (ByteArray × Int)) (x0 : ByteArray) (x1 : ByteArray) (x2 : Int) (x3 : Int) (x4 : Bool) (x5 : List Int) (ret : (ByteArray × Int) → Option β) : words_Unquote.s1c g11 g22 s0 s1 s2 s3 s4 x0 x1 x2 x3 x4 x5 ret = (words_Unquote.s1c g11 g22 s0 s1 s2 s3 s4 x0 x1 x2 x3 x4 x5 some).bind ret := by
  simp only [words_Unquote.s1c, bif_bind, sum_bind, Option.bind_assoc, Option.bind_some, Option.bind_none, Option.bind_fun_some]
theorem words_Unquote.s2c_bind {β : Type} (g11 : ByteArray → Option ByteArray) (g22 : ByteArray → Option Int) (s0 : ByteArray → ByteArray → Int → (List Int) → Option (ByteArray × Int)) (s1 : ByteArray → ByteArray → Int → Int → Bool → (List Int) → Option (ByteArray × Int)) (s2 : ByteArray → ByteArray → Int → Int → Bool → (List Int) → Option (ByteArray × Int)) (s3 : ByteArray → ByteArray → Int → Int → (List Int) → Option (ByteArray × Int)) (s4 : ByteArray → ByteArray → Int → (List Int) → Option (ByteArray × Int)) (x0 : ByteArray) (x1 : ByteArray) (x2 : Int) (x3 : Int) (x4 : Bool) (x5 : List Int) (ret : (ByteArray × Int) → Option β) : words_Unquote.s2c g11 g22 s0 s1 s2 s3 s4 x0 x1 x2 x3 x4 x5 ret = (words_Unquote.s2c g11 g22 s0 s1 s2 s3 s4 x0 x1 x2 x3 x4 x5 some).bind ret := by
  simp only [words_Unquote.s2c, bif_bind, sum_bind, Option.bind_assoc, Option.bind_some, Option.bind_none, Option.bind_fun_some]
theorem words_Unquote.s3c_bind {β : Type} (g11 : ByteArray → Option ByteArray) (g22 : ByteArray → Option Int) (s0 : ByteArray → ByteArray → Int → (List Int) → Option (ByteArray × Int)) (s1 : ByteArray → ByteArray → Int → Int → Bool → (List Int) → Option (ByteArray × Int)) (s2 : ByteArray → ByteArray → Int → Int → Bool → (List Int) → Option (ByteArray × Int)) (s3 : ByteArray → ByteArray → Int → Int → (List Int) → Option (ByteArray × Int)) (s4 : ByteArray → ByteArray → Int → (List Int) → Option (ByteArray × Int)) (x0 : ByteArray) (x1 : ByteArray) (x2 : Int) (x3 : Int) (x4 : List Int) (ret : (ByteArray × Int) → Option β) : words_Unquote.s3c g11 g22 s0 s1 s2 s3 s4 x0 x1 x2 x3 x4 ret = (words_Unquote.s3c g11 g22 s0 s1 s2 s3 s4 x0 x1 x2 x3 x4 some).bind ret := by
  simp only [words_Unquote.s3c, bif_bind, sum_bind, Option.bind_assoc, Option.bind_some, Option.bind_none, Option.bind_fun_some]
theorem words_Unquote.s4c_bind {β : Type} (g11 : ByteArray → Option ByteArray) (g22 : ByteArray → Option Int) (s0 : ByteArray → ByteArray → Int → (List Int) → Option (ByteArray × Int)) (s1 : ByteArray → ByteArray → Int → Int → Bool → (List Int) → Option (ByteArray × Int)) (s2 : ByteArray → ByteArray → Int → Int → Bool → (List Int) → Option (ByteArray × Int)) (s3 : ByteArray → ByteArray → Int → Int → (List Int) → Option (ByteArray × Int)) (s4 : ByteArray → ByteArray → Int → (List Int) → Option (ByteArray × Int)) (x0 : ByteArray) (x1 : ByteArray) (x2 : Int) (x3 : List Int) (ret : (ByteArray × Int) → Option β) : words_Unquote.s4c g11 g22 s0 s1 s2 s3 s4 x0 x1 x2 x3 ret = (words_Unquote.s4c g11 g22 s0 s1 s2 s3 s4 x0 x1 x2 x3 some).bind ret := by
  simp only [words_Unquote.s4c, bif_bind, sum_bind, Option.bind_assoc, Option.bind_some, Option.bind_none, Option.bind_fun_some]
theorem words_Unquote.ev (g11 : ByteArray → Option ByteArray) (g22 : ByteArray → Option Int) (s0 : ByteArray → ByteArray → Int → (List Int) → Option (ByteArray × Int)) (s1 : ByteArray → ByteArray → Int → Int → Bool → (List Int) → Option (ByteArray × Int)) (s2 : ByteArray → ByteArray → Int → Int → Bool → (List Int) → Option (ByteArray × Int)) (s3 : ByteArray → ByteArray → Int → Int → (List Int) → Option (ByteArray × Int)) (s4 : ByteArray → ByteArray → Int → (List Int) → Option (ByteArray × Int)) (a0 : ByteArray) : evAt (env_words_Unquote g11 g22 s0 s1 s2 s3 s4) [] [0] [.v (.one (.d .str a0))] [] some = words_Unquote.c g11 g22 s0 s1 s2 s3 s4 a0 (fun r => some ⟨.tup [(.one (.d .str r.1)), (.one (.d (.int .i64) r.2))], []⟩) := by
  kernel_rfl
theorem words_Unquote.s0_ev (g11 : ByteArray → Option ByteArray) (g22 : ByteArray → Option Int) (s0 : ByteArray → ByteArray → Int → (List Int) → Option (ByteArray × Int)) (s1 : ByteArray → ByteArray → Int → Int → Bool → (List Int) → Option (ByteArray × Int)) (s2 : ByteArray → ByteArray → Int → Int → Bool → (List Int) → Option (ByteArray × Int)) (s3 : ByteArray → ByteArray → Int → Int → (List Int) → Option (ByteArray × Int)) (s4 : ByteArray → ByteArray → Int → (List Int) → Option (ByteArray × Int)) (x0 : ByteArray) (x1 : ByteArray) (x2 : Int) (x3 : List Int) : evAt (env_words_Unquote g11 g22 s0 s1 s2 s3 s4) [4, 1, 0, 1, 1, 1, 1] [0, 4, 5, 6] [.v (.one (.d .str x0)), .v (.one (.d .str x1)), .v (.one (.own 0)), .v (.one (.d (.int .i64) x2))] [some (.own (.int .u8) false x3)] some = words_Unquote.s0c g11 g22 s0 s1 s2 s3 s4 x0 x1 x2 x3 (fun r => some ⟨.tup [(.one (.d .str r.1)), (.one (.d (.int .i64) r.2))], []⟩) := by
  kernel_rfl
theorem words_Unquote.s1_ev (g11 : ByteArray → Option ByteArray) (g22 : ByteArray → Option Int) (s0 : ByteArray → ByteArray → Int → (List Int) → Option (ByteArray × Int)) (s1 : ByteArray → ByteArray → Int → Int → Bool → (List Int) → Option (ByteArray × Int)) (s2 : ByteArray → ByteArray → Int → Int → Bool → (List Int) → Option (ByteArray × Int)) (s3 : ByteArray → ByteArray → Int → Int → (List Int) → Option (ByteArray × Int)) (s4 : ByteArray → ByteArray → Int → (List Int) → Option (ByteArray × Int)) (x0 : ByteArray) (x1 : ByteArray) (x2 : Int) (x3 : Int) (x4 : Bool) (x5 : List Int) : evAt (env_words_Unquote g11 g22 s0 s1 s2 s3 s4) [1, 0, 1, 4, 0, 1, 5, 4, 1, 0, 1, 1, 1, 1] [0, 4, 5, 6, 7, 34] [.v (.one (.d .str x0)), .v (.one (.d .str x1)), .v (.one (.own 0)), .v (.one (.d (.int .i64) x2)), .v (.one (.d (.int .u8) x3)), .v (.one (.d .bool x4))] [some (.own (.int .u8) false x5)] some = words_Unquote.s1c g11 g22 s0 s1 s2 s3 s4 x0 x1 x2 x3 x4 x5 (fun r => some ⟨.tup [(.one (.d .str r.1)), (.one (.d (.int .i64) r.2))], []⟩) := by
  kernel_rfl
theorem words_Unquote.s2_ev (g11 : ByteArray → Option ByteArray) (g22 : ByteArray → Option Int) (s0 : ByteArray → ByteArray → Int → (List Int) → Option (ByteArray × Int)) (s1 : ByteArray → ByteArray → Int → Int → Bool → (List Int) → Option (ByteArray × Int)) (s2 : ByteArray → ByteArray → Int → Int → Bool → (List Int) → Option (ByteArray × Int)) (s3 : ByteArray → ByteArray → Int → Int → (List Int) → Option (ByteArray × Int)) (s4 : ByteArray → ByteArray → Int → (List Int) → Option (ByteArray × Int)) (x0 : ByteArray) (x1 : ByteArray) (x2 : Int) (x3 : Int) (x4 : Bool) (x5 : List Int) : evAt (env_words_Unquote g11 g22 s0 s1 s2 s3 s4) [1, 1, 1, 2, 1, 0, 1, 4, 0, 1, 5, 4, 1, 0, 1, 1, 1, 1] [0, 4, 5, 6, 7, 48] [.v (.one (.d .str x0)), .v (.one (.d .str x1)), .v (.one (.own 0)), .v (.one (.d (.int .i64) x2)), .v (.one (.d (.int .u8) x3)), .v (.one (.d .bool x4))] [some (.own (.int .u8) false x5)] some = words_Unquote.s2c g11 g22 s0 s1 s2 s3 s4 x0 x1 x2 x3 x4 x5 (fun r => some ⟨.tup [(.one (.d .str r.1)), (.one (.d (.int .i64) r.2))], []⟩) := by
  kernel_rfl
theorem words_Unquote.s3_ev (g11 : ByteArray → Option ByteArray) (g22 : ByteArray → Option Int) (s0 : ByteArray → ByteArray → Int → (List Int) → Option (ByteArray × Int)) (s1 : ByteArray → ByteArray → Int → Int → Bool → (List Int) → Option (ByteArray × Int)) (s2 : ByteArray → ByteArray → Int → Int → Bool → (List Int) → Option (ByteArray × Int)) (s3 : ByteArray → ByteArray → Int → Int → (List Int) → Option (ByteArray × Int)) (s4 : ByteArray → ByteArray → Int → (List Int) → Option (ByteArray × Int)) (x0 : ByteArray) (x1 : ByteArray) (x2 : Int) (x3 : Int) (x4 : List Int) : evAt (env_words_Unquote g11 g22 s0 s1 s2 s3 s4) [1, 1, 4, 0, 1, 5, 4, 1, 0, 1, 1, 1, 1] [0, 4, 5, 6, 7] [.v (.one (.d .str x0)), .v (.one (.d .str x1)), .v (.one (.own 0)), .v (.one (.d (.int .i64) x2)), .v (.one (.d (.int .u8) x3))] [some (.own (.int .u8) false x4)] some = words_Unquote.s3c g11 g22 s0 s1 s2 s3 s4 x0 x1 x2 x3 x4 (fun r => some ⟨.tup [(.one (.d .str r.1)), (.one (.d (.int .i64) r.2))], []⟩) := by
  kernel_rfl
theorem words_Unquote.s4_ev (g11 : ByteArray → Option ByteArray) (g22 : ByteArray → Option Int) (s0 : ByteArray → ByteArray → Int → (List Int) → Option (ByteArray × Int)) (s1 : ByteArray → ByteArray → Int → Int → Bool → (List Int) → Option (ByteArray × Int)) (s2 : ByteArray → ByteArray → Int → Int → Bool → (List Int) → Option (ByteArray × Int)) (s3 : ByteArray → ByteArray → Int → Int → (List Int) → Option (ByteArray × Int)) (s4 : ByteArray → ByteArray → Int → (List Int) → Option (ByteArray × Int)) (x0 : ByteArray) (x1 : ByteArray) (x2 : Int) (x3 : List Int) : evAt (env_words_Unquote g11 g22 s0 s1 s2 s3 s4) [1, 1, 5, 4, 1, 0, 1, 1, 1, 1] [0, 4, 5, 6] [.v (.one (.d .str x0)), .v (.one (.d .str x1)), .v (.one (.own 0)), .v (.one (.d (.int .i64) x2))] [some (.own (.int .u8) false x3)] some = words_Unquote.s4c g11 g22 s0 s1 s2 s3 s4 x0 x1 x2 x3 (fun r => some ⟨.tup [(.one (.d .str r.1)), (.one (.d (.int .i64) r.2))], []⟩) := by
  kernel_rfl
mutual
def words_Unquote.s0 : Nat → ByteArray → ByteArray → Int → (List Int) → Option (ByteArray × Int)
  | 0, _, _, _, _ => none
  | k + 1, x0, x1, x2, x3 => words_Unquote.s0c (words_Quote.f k) (words_hex.f k) (words_Unquote.s0 k) (words_Unquote.s1 k) (words_Unquote.s2 k) (words_Unquote.s3 k) (words_Unquote.s4 k) x0 x1 x2 x3 some
def words_Unquote.s1 : Nat → ByteArray → ByteArray → Int → Int → Bool → (List Int) → Option (ByteArray × Int)
  | 0, _, _, _, _, _, _ => none
  | k + 1, x0, x1, x2, x3, x4, x5 => words_Unquote.s1c (words_Quote.f k) (words_hex.f k) (words_Unquote.s0 k) (words_Unquote.s1 k) (words_Unquote.s2 k) (words_Unquote.s3 k) (words_Unquote.s4 k) x0 x1 x2 x3 x4 x5 some
def words_Unquote.s2 : Nat → ByteArray → ByteArray → Int → Int → Bool → (List Int) → Option (ByteArray × Int)
  | 0, _, _, _, _, _, _ => none
  | k + 1, x0, x1, x2, x3, x4, x5 => words_Unquote.s2c (words_Quote.f k) (words_hex.f k) (words_Unquote.s0 k) (words_Unquote.s1 k) (words_Unquote.s2 k) (words_Unquote.s3 k) (words_Unquote.s4 k) x0 x1 x2 x3 x4 x5 some
def words_Unquote.s3 : Nat → ByteArray → ByteArray → Int → Int → (List Int) → Option (ByteArray × Int)
  | 0, _, _, _, _, _ => none
  | k + 1, x0, x1, x2, x3, x4 => words_Unquote.s3c (words_Quote.f k) (words_hex.f k) (words_Unquote.s0 k) (words_Unquote.s1 k) (words_Unquote.s2 k) (words_Unquote.s3 k) (words_Unquote.s4 k) x0 x1 x2 x3 x4 some
def words_Unquote.s4 : Nat → ByteArray → ByteArray → Int → (List Int) → Option (ByteArray × Int)
  | 0, _, _, _, _ => none
  | k + 1, x0, x1, x2, x3 => words_Unquote.s4c (words_Quote.f k) (words_hex.f k) (words_Unquote.s0 k) (words_Unquote.s1 k) (words_Unquote.s2 k) (words_Unquote.s3 k) (words_Unquote.s4 k) x0 x1 x2 x3 some
end
def words_Unquote.f (k : Nat) (a0 : ByteArray) : Option (ByteArray × Int) := words_Unquote.c (words_Quote.f k) (words_hex.f k) (words_Unquote.s0 k) (words_Unquote.s1 k) (words_Unquote.s2 k) (words_Unquote.s3 k) (words_Unquote.s4 k) a0 some
theorem words_Unquote.is (g11 : ByteArray → Option ByteArray) (g22 : ByteArray → Option Int) (s0 : ByteArray → ByteArray → Int → (List Int) → Option (ByteArray × Int)) (s1 : ByteArray → ByteArray → Int → Int → Bool → (List Int) → Option (ByteArray × Int)) (s2 : ByteArray → ByteArray → Int → Int → Bool → (List Int) → Option (ByteArray × Int)) (s3 : ByteArray → ByteArray → Int → Int → (List Int) → Option (ByteArray × Int)) (s4 : ByteArray → ByteArray → Int → (List Int) → Option (ByteArray × Int)) : FnIs (env_words_Unquote g11 g22 s0 s1 s2 s3 s4) 12 Go.Proofs.Try.f12 := ⟨Go.Proofs.Try.func12, rfl, rfl, rfl, by decide⟩
theorem words_Unquote.envok (g11 : ByteArray → Option ByteArray) (g22 : ByteArray → Option Int) (s0 : ByteArray → ByteArray → Int → (List Int) → Option (ByteArray × Int)) (s1 : ByteArray → ByteArray → Int → Int → Bool → (List Int) → Option (ByteArray × Int)) (s2 : ByteArray → ByteArray → Int → Int → Bool → (List Int) → Option (ByteArray × Int)) (s3 : ByteArray → ByteArray → Int → Int → (List Int) → Option (ByteArray × Int)) (s4 : ByteArray → ByteArray → Int → (List Int) → Option (ByteArray × Int)) (h11 : CtOK Go.Proofs.Try.prog 11 (ct_words_Quote g11)) (h22 : CtOK Go.Proofs.Try.prog 22 (ct_words_hex g22)) : EnvOK (env_words_Unquote g11 g22 s0 s1 s2 s3 s4).toEnv := by
  intro f c h
  simp only [env_words_Unquote] at h
  split at h
  · rename_i e; subst e; cases h; exact h11
  split at h
  · rename_i e; subst e; cases h; exact h22
  simp at h
theorem words_Unquote.segs_ok : ∀ k, ∀ s ∈ (env_words_Unquote (words_Quote.f k) (words_hex.f k) (words_Unquote.s0 k) (words_Unquote.s1 k) (words_Unquote.s2 k) (words_Unquote.s3 k) (words_Unquote.s4 k)).segs, SegOK (env_words_Unquote (words_Quote.f k) (words_hex.f k) (words_Unquote.s0 k) (words_Unquote.s1 k) (words_Unquote.s2 k) (words_Unquote.s3 k) (words_Unquote.s4 k)) Go.Proofs.Try.f12 s
  | 0 => by
    intro s hs
    simp only [env_words_Unquote, List.mem_cons, List.not_mem_nil, or_false] at hs
    rcases hs with rfl | rfl | rfl | rfl | rfl
    · intro tvs blks res h; exfalso; simp only [seg_words_Unquote_0] at h; split at h <;> simp [words_Unquote.s0] at h
    · intro tvs blks res h; exfalso; simp only [seg_words_Unquote_1] at h; split at h <;> simp [words_Unquote.s1] at h
    · intro tvs blks res h; exfalso; simp only [seg_words_Unquote_2] at h; split at h <;> simp [words_Unquote.s2] at h
    · intro tvs blks res h; exfalso; simp only [seg_words_Unquote_3] at h; split at h <;> simp [words_Unquote.s3] at h
    · intro tvs blks res h; exfalso; simp only [seg_words_Unquote_4] at h; split at h <;> simp [words_Unquote.s4] at h
  | k + 1 => by
    have ih := words_Unquote.segs_ok k
    intro s hs
    simp only [env_words_Unquote, List.mem_cons, List.not_mem_nil, or_false] at hs
    rcases hs with rfl | rfl | rfl | rfl | rfl
    · refine seg_of_ev (E := env_words_Unquote (words_Quote.f k) (words_hex.f k) (words_Unquote.s0 k) (words_Unquote.s1 k) (words_Unquote.s2 k) (words_Unquote.s3 k) (words_Unquote.s4 k)) (words_Unquote.envok _ _ _ _ _ _ _  (words_Quote.ok k) (words_hex.ok k)) ⟨(words_Unquote.is (words_Quote.f k) (words_hex.f k) (words_Unquote.s0 k) (words_Unquote.s1 k) (words_Unquote.s2 k) (words_Unquote.s3 k) (words_Unquote.s4 k)).rvs⟩ ih ?_
      intro tvs blks res h
      simp only [seg_words_Unquote_0] at h
      split at h
      · refine (words_Unquote.s0_ev (words_Quote.f k) (words_hex.f k) (words_Unquote.s0 k) (words_Unquote.s1 k) (words_Unquote.s2 k) (words_Unquote.s3 k) (words_Unquote.s4 k) _ _ _ _ ).trans ?_
        rw [words_Unquote.s0c_bind]
        exact h
      · simp at h
    · refine seg_of_ev (E := env_words_Unquote (words_Quote.f k) (words_hex.f k) (words_Unquote.s0 k) (words_Unquote.s1 k) (words_Unquote.s2 k) (words_Unquote.s3 k) (words_Unquote.s4 k)) (words_Unquote.envok _ _ _ _ _ _ _  (words_Quote.ok k) (words_hex.ok k)) ⟨(words_Unquote.is (words_Quote.f k) (words_hex.f k) (words_Unquote.s0 k) (words_Unquote.s1 k) (words_Unquote.s2 k) (words_Unquote.s3 k) (words_Unquote.s4 k)).rvs⟩ ih ?_
      intro tvs blks res h
      simp only [seg_words_Unquote_1] at h
      split at h
      · refine (words_Unquote.s1_ev (words_Quote.f k) (words_hex.f k) (words_Unquote.s0 k) (words_Unquote.s1 k) (words_Unquote.s2 k) (words_Unquote.s3 k) (words_Unquote.s4 k) _ _ _ _ _ _ ).trans ?_
        rw [words_Unquote.s1c_bind]
        exact h
      · simp at h
    · refine seg_of_ev (E := env_words_Unquote (words_Quote.f k) (words_hex.f k) (words_Unquote.s0 k) (words_Unquote.s1 k) (words_Unquote.s2 k) (words_Unquote.s3 k) (words_Unquote.s4 k)) (words_Unquote.envok _ _ _ _ _ _ _  (words_Quote.ok k) (words_hex.ok k)) ⟨(words_Unquote.is (words_Quote.f k) (words_hex.f k) (words_Unquote.s0 k) (words_Unquote.s1 k) (words_Unquote.s2 k) (words_Unquote.s3 k) (words_Unquote.s4 k)).rvs⟩ ih ?_
      intro tvs blks res h
      simp only [seg_words_Unquote_2] at h
      split at h
      · refine (words_Unquote.s2_ev (words_Quote.f k) (words_hex.f k) (words_Unquote.s0 k) (words_Unquote.s1 k) (words_Unquote.s2 k) (words_Unquote.s3 k) (words_Unquote.s4 k) _ _ _ _ _ _ ).trans ?_
        rw [words_Unquote.s2c_bind]
        exact h
      · simp at h
    · refine seg_of_ev (E := env_words_Unquote (words_Quote.f k) (words_hex.f k) (words_Unquote.s0 k) (words_Unquote.s1 k) (words_Unquote.s2 k) (words_Unquote.s3 k) (words_Unquote.s4 k)) (words_Unquote.envok _ _ _ _ _ _ _  (words_Quote.ok k) (words_hex.ok k)) ⟨(words_Unquote.is (words_Quote.f k) (words_hex.f k) (words_Unquote.s0 k) (words_Unquote.s1 k) (words_Unquote.s2 k) (words_Unquote.s3 k) (words_Unquote.s4 k)).rvs⟩ ih ?_
      intro tvs blks res h
      simp only [seg_words_Unquote_3] at h
      split at h
      · refine (words_Unquote.s3_ev (words_Quote.f k) (words_hex.f k) (words_Unquote.s0 k) (words_Unquote.s1 k) (words_Unquote.s2 k) (words_Unquote.s3 k) (words_Unquote.s4 k) _ _ _ _ _ ).trans ?_
        rw [words_Unquote.s3c_bind]
        exact h
      · simp at h
    · refine seg_of_ev (E := env_words_Unquote (words_Quote.f k) (words_hex.f k) (words_Unquote.s0 k) (words_Unquote.s1 k) (words_Unquote.s2 k) (words_Unquote.s3 k) (words_Unquote.s4 k)) (words_Unquote.envok _ _ _ _ _ _ _  (words_Quote.ok k) (words_hex.ok k)) ⟨(words_Unquote.is (words_Quote.f k) (words_hex.f k) (words_Unquote.s0 k) (words_Unquote.s1 k) (words_Unquote.s2 k) (words_Unquote.s3 k) (words_Unquote.s4 k)).rvs⟩ ih ?_
      intro tvs blks res h
      simp only [seg_words_Unquote_4] at h
      split at h
      · refine (words_Unquote.s4_ev (words_Quote.f k) (words_hex.f k) (words_Unquote.s0 k) (words_Unquote.s1 k) (words_Unquote.s2 k) (words_Unquote.s3 k) (words_Unquote.s4 k) _ _ _ _ ).trans ?_
        rw [words_Unquote.s4c_bind]
        exact h
      · simp at h
theorem words_Unquote.ok (k : Nat) : CtOK Go.Proofs.Try.prog 12 (ct_words_Unquote (words_Unquote.f k)) := by
  refine ct_of_ev (E := env_words_Unquote (words_Quote.f k) (words_hex.f k) (words_Unquote.s0 k) (words_Unquote.s1 k) (words_Unquote.s2 k) (words_Unquote.s3 k) (words_Unquote.s4 k)) (words_Unquote.is _ _ _ _ _ _ _ ) (words_Unquote.envok _ _ _ _ _ _ _  (words_Quote.ok k) (words_hex.ok k)) (words_Unquote.segs_ok k) rfl ?_
  intro tvs blks res h
  simp only [ct_words_Unquote] at h
  split at h
  · refine (words_Unquote.ev (words_Quote.f k) (words_hex.f k) (words_Unquote.s0 k) (words_Unquote.s1 k) (words_Unquote.s2 k) (words_Unquote.s3 k) (words_Unquote.s4 k) _ ).trans ?_
    rw [words_Unquote.c_bind]
    exact h
  · simp at h

/-! ### values_only: function 31 -/
def ct_values_only (g : Int → Int → Int → ByteArray → Option (Int × Int × Int × ByteArray)) : Ct where
  nin := 0
  mv := []
  F := fun tvs blks {β} K => match tvs, blks with
    | [.v (.agg [(.d (.int .i64) a0), (.d (.int .i64) a1), (.d (.int .u64) a2), (.d .str a3)])], [] => (g a0 a1 a2 a3).bind fun r => K ⟨.v (.agg [(.d (.int .i64) r.1), (.d (.int .i64) r.2.1), (.d (.int .u64) r.2.2.1), (.d .str r.2.2.2)]), []⟩
    | _, _ => none
  legit := fun tvs blks K r h => by
    split at h
    · obtain ⟨x, hx, hk⟩ := Option.bind_eq_some_iff.1 h
      refine ⟨_, ?_, hk⟩
      simp only [hx, Option.bind_some]
    · simp at h
def seg_values_only_0 (g : Int → Bool → Int → Int → Int → ByteArray → Int → Int → Int → ByteArray → Int → Int → Int → ByteArray → Option (Int × Int × Int × ByteArray)) : Seg where
  path := [1, 4, 1, 0, 1, 1]
  prep := []
  keep := [1, 2, 3, 8, 9]
  F := fun tvs blks {β} K => match tvs, blks with
    | [.v (.one (.ptr 0 0)), .v (.one (.ptr 1 0)), .v (.one (.ptr 2 0)), .v (.one (.d (.int .i64) x0)), .v (.one (.d .bool x1))], [some (.box [(.d (.int .i64) x2), (.d (.int .i64) x3), (.d (.int .u64) x4), (.d .str x5)]), some (.box [(.d (.int .i64) x6), (.d (.int .i64) x7), (.d (.int .u64) x8), (.d .str x9)]), some (.box [(.d (.int .i64) x10), (.d (.int .i64) x11), (.d (.int .u64) x12), (.d .str x13)])] => (g x0 x1 x2 x3 x4 x5 x6 x7 x8 x9 x10 x11 x12 x13).bind fun r => K ⟨.v (.agg [(.d (.int .i64) r.1), (.d (.int .i64) r.2.1), (.d (.int .u64) r.2.2.1), (.d .str r.2.2.2)]), []⟩
    | _, _ => none
  legit := fun tvs blks K r h => by
    split at h
    · obtain ⟨x, hx, hk⟩ := Option.bind_eq_some_iff.1 h
      refine ⟨_, ?_, hk⟩
      simp only [hx, Option.bind_some]
    · simp at h
noncomputable def env_values_only  (s0 : Int → Bool → Int → Int → Int → ByteArray → Int → Int → Int → ByteArray → Int → Int → Int → ByteArray → Option (Int × Int × Int × ByteArray)) : FEnv := { P := Go.Proofs.Try.prog, ct := fun m => none, N := 27, body := Go.Proofs.Try.f31.body.getD .skip, rvs := [.cell 2 38], rts := [38], nin := 0, rmv := [], segs := [seg_values_only_0 s0] }
def values_only.c {β : Type}  (s0 : Int → Bool → Int → Int → Int → ByteArray → Int → Int → Int → ByteArray → Int → Int → Int → ByteArray → Option (Int × Int × Int × ByteArray)) (a0 : Int) (a1 : Int) (a2 : Int) (a3 : ByteArray) (ret : (Int × Int × Int × ByteArray) → Option β) : Option β := (bif (a0 == (1 : Int)) then ((s0 a0 (a0 == (1 : Int)) a0 a1 a2 a3 (0 : Int) (0 : Int) (0 : Int) (ByteArray.mk (List.toArray [])) a0 (0 : Int) (0 : Int) (ByteArray.mk (List.toArray []))).bind ret) else ((s0 a0 (a0 == (2 : Int)) a0 a1 a2 a3 (0 : Int) (0 : Int) (0 : Int) (ByteArray.mk (List.toArray [])) a0 (0 : Int) (0 : Int) (ByteArray.mk (List.toArray []))).bind ret))
def values_only.s0c {β : Type}  (s0 : Int → Bool → Int → Int → Int → ByteArray → Int → Int → Int → ByteArray → Int → Int → Int → ByteArray → Option (Int × Int × Int × ByteArray)) (x0 : Int) (x1 : Bool) (x2 : Int) (x3 : Int) (x4 : Int) (x5 : ByteArray) (x6 : Int) (x7 : Int) (x8 : Int) (x9 : ByteArray) (x10 : Int) (x11 : Int) (x12 : Int) (x13 : ByteArray) (ret : (Int × Int × Int × ByteArray) → Option β) : Option β := (bif x1 then (ret (x10, x3, x12, x13)) else (bif (x0 == (3 : Int)) then (ret (x10, x11, x4, x13)) else (bif (x0 == (4 : Int)) then (bif (x0 == (4 : Int)) then (ret (x10, x11, x12, x5)) else (ret (x10, x11, x12, x13))) else (bif (x0 == (5 : Int)) then (ret (x10, x11, x12, x5)) else (ret (x10, x11, x12, x13))))))
theorem values_only.c_bind {β : Type}  (s0 : Int → Bool → Int → Int → Int → ByteArray → Int → Int → Int → ByteArray → Int → Int → Int → ByteArray → Option (Int × Int × Int × ByteArray)) (a0 : Int) (a1 : Int) (a2 : Int) (a3 : ByteArray) (ret : (Int × Int × Int × ByteArray) → Option β) : values_only.c  s0 a0 a1 a2 a3 ret = (values_only.c  s0 a0 a1 a2 a3 some).bind ret := by
  simp only [values_only.c, bif_bind, sum_bind, Option.bind_assoc, Option.bind_some, Option.bind_none, Option.bind_fun_some]
theorem values_only.s0c_bind {β : Type}  (s0 : Int → Bool → Int → Int → Int → ByteArray → Int → Int → Int → ByteArray → Int → Int → Int → ByteArray → Option (Int × Int × Int × ByteArray)) (x0 : Int) (x1 : Bool) (x2 : Int) (x3 : Int) (x4 : Int) (x5 : ByteArray) (x6 : Int) (x7 : Int) (x8 : Int) (x9 : ByteArray) (x10 : Int) (x11 : Int) (x12 : Int) (x13 : ByteArray) (ret : (Int × Int × Int × ByteArray) → Option β) : values_only.s0c  s0 x0 x1 x2 x3 x4 x5 x6 x7 x8 x9 x10 x11 x12 x13 ret = (values_only.s0c  s0 x0 x1 x2 x3 x4 x5 x6 x7 x8 x9 x10 x11 x12 x13 some).bind ret := by
  simp only [values_only.s0c, bif_bind, sum_bind, Option.bind_assoc, Option.bind_some, Option.bind_none, Option.bind_fun_some]
theorem values_only.ev  (s0 : Int → Bool → Int → Int → Int → ByteArray → Int → Int → Int → ByteArray → Int → Int → Int → ByteArray → Option (Int × Int × Int × ByteArray)) (a0 : Int) (a1 : Int) (a2 : Int) (a3 : ByteArray) : evAt (env_values_only  s0) [] [0] [.v (.agg [(.d (.int .i64) a0), (.d (.int .i64) a1), (.d (.int .u64) a2), (.d .str a3)])] [] some = values_only.c  s0 a0 a1 a2 a3 (fun r => some ⟨.v (.agg [(.d (.int .i64) r.1), (.d (.int .i64) r.2.1), (.d (.int .u64) r.2.2.1), (.d .str r.2.2.2)]), []⟩) := by
  kernel_rfl
theorem values_only.s0_ev  (s0 : Int → Bool → Int → Int → Int → ByteArray → Int → Int → Int → ByteArray → Int → Int → Int → ByteArray → Option (Int × Int × Int × ByteArray)) (x0 : Int) (x1 : Bool) (x2 : Int) (x3 : Int) (x4 : Int) (x5 : ByteArray) (x6 : Int) (x7 : Int) (x8 : Int) (x9 : ByteArray) (x10 : Int) (x11 : Int) (x12 : Int) (x13 : ByteArray) : evAt (env_values_only  s0) [1, 4, 1, 0, 1, 1] [1, 2, 3, 8, 9] [.v (.one (.ptr 0 0)), .v (.one (.ptr 1 0)), .v (.one (.ptr 2 0)), .v (.one (.d (.int .i64) x0)), .v (.one (.d .bool x1))] [some (.box [(.d (.int .i64) x2), (.d (.int .i64) x3), (.d (.int .u64) x4), (.d .str x5)]), some (.box [(.d (.int .i64) x6), (.d (.int .i64) x7), (.d (.int .u64) x8), (.d .str x9)]), some (.box [(.d (.int .i64) x10), (.d (.int .i64) x11), (.d (.int .u64) x12), (.d .str x13)])] some = values_only.s0c  s0 x0 x1 x2 x3 x4 x5 x6 x7 x8 x9 x10 x11 x12 x13 (fun r => some ⟨.v (.agg [(.d (.int .i64) r.1), (.d (.int .i64) r.2.1), (.d (.int .u64) r.2.2.1), (.d .str r.2.2.2)]), []⟩) := by
  kernel_rfl
def values_only.s0 : Nat → Int → Bool → Int → Int → Int → ByteArray → Int → Int → Int → ByteArray → Int → Int → Int → ByteArray → Option (Int × Int × Int × ByteArray)
  | 0, _, _, _, _, _, _, _, _, _, _, _, _, _, _ => none
  | k + 1, x0, x1, x2, x3, x4, x5, x6, x7, x8, x9, x10, x11, x12, x13 => values_only.s0c  (values_only.s0 k) x0 x1 x2 x3 x4 x5 x6 x7 x8 x9 x10 x11 x12 x13 some
def values_only.f (k : Nat) (a0 : Int) (a1 : Int) (a2 : Int) (a3 : ByteArray) : Option (Int × Int × Int × ByteArray) := values_only.c  (values_only.s0 k) a0 a1 a2 a3 some
theorem values_only.is  (s0 : Int → Bool → Int → Int → Int → ByteArray → Int → Int → Int → ByteArray → Int → Int → Int → ByteArray → Option (Int × Int × Int × ByteArray)) : FnIs (env_values_only  s0) 31 Go.Proofs.Try.f31 := ⟨Go.Proofs.Try.func31, rfl, rfl, rfl, by decide⟩
theorem values_only.envok  (s0 : Int → Bool → Int → Int → Int → ByteArray → Int → Int → Int → ByteArray → Int → Int → Int → ByteArray → Option (Int × Int × Int × ByteArray))  : EnvOK (env_values_only  s0).toEnv := by
  intro f c h
  simp only [env_values_only] at h
  simp at h
theorem values_only.segs_ok : ∀ k, ∀ s ∈ (env_values_only  (values_only.s0 k)).segs, SegOK (env_values_only  (values_only.s0 k)) Go.Proofs.Try.f31 s
  | 0 => by
    intro s hs
    simp only [env_values_only, List.mem_cons, List.not_mem_nil, or_false] at hs
    rcases hs with rfl
    · intro tvs blks res h; exfalso; simp only [seg_values_only_0] at h; split at h <;> simp [values_only.s0] at h
  | k + 1 => by
    have ih := values_only.segs_ok k
    intro s hs
    simp only [env_values_only, List.mem_cons, List.not_mem_nil, or_false] at hs
    rcases hs with rfl
    · refine seg_of_ev (E := env_values_only  (values_only.s0 k)) (values_only.envok _  ) ⟨(values_only.is  (values_only.s0 k)).rvs⟩ ih ?_
      intro tvs blks res h
      simp only [seg_values_only_0] at h
      split at h
      · refine (values_only.s0_ev  (values_only.s0 k) _ _ _ _ _ _ _ _ _ _ _ _ _ _ ).trans ?_
        rw [values_only.s0c_bind]
        exact h
      · simp at h
theorem values_only.ok (k : Nat) : CtOK Go.Proofs.Try.prog 31 (ct_values_only (values_only.f k)) := by
  refine ct_of_ev (E := env_values_only  (values_only.s0 k)) (values_only.is _ ) (values_only.envok _  ) (values_only.segs_ok k) rfl ?_
  intro tvs blks res h
  simp only [ct_values_only] at h
  split at h
  · refine (values_only.ev  (values_only.s0 k) _ _ _ _ ).trans ?_
    rw [values_only.c_bind]
    exact h
  · simp at h

/-! ### math_Float64frombits: function 39 (no body) -/
def ct_math_Float64frombits (g : Int → Option Nat) : Ct where
  nin := 0
  mv := []
  F := fun tvs blks {β} K => match tvs, blks with
    | [.v (.one (.d (.int .u64) a0))], [] => (g a0).bind fun r => K ⟨.v (.one (.d .flt r)), []⟩
    | _, _ => none
  legit := fun tvs blks K r h => by
    split at h
    · obtain ⟨x, hx, hk⟩ := Option.bind_eq_some_iff.1 h
      refine ⟨_, ?_, hk⟩
      simp only [hx, Option.bind_some]
    · simp at h
def math_Float64frombits.f (k : Nat) (a0 : Int) : Option Nat := some (a0.toNat)
theorem math_Float64frombits.ok (k : Nat) : CtOK Go.Proofs.Try.prog 39 (ct_math_Float64frombits (math_Float64frombits.f k)) := by
  refine ct_extern ?_
  intro tvs blks res h
  simp only [ct_math_Float64frombits] at h
  split at h
  · simp only [math_Float64frombits.f, Option.bind_some, Option.some.injEq] at h; subst h
    rename_i a0
    refine ⟨.float .f64 a0.toNat, ?_, rfl, rfl⟩
    intro w S ρ H vals hm hv
    obtain ⟨v0, m0, rfl, h0, hv⟩ := All2.cons_left hv
    cases All2.nil_left hv
    simp only [RepTV, RepVV, RepAV, Rd, List.cons.injEq, and_true] at h0
    subst h0
    exact ⟨run_callFunc_extern (e := Extern.MathFloatBits.float64frombits) Go.Proofs.Try.func39 (by kernel_rfl) (by kernel_rfl) (by kernel_rfl) (by kernel_rfl) _ w, rfl⟩
  · simp at h

/-! ### reals_Canon: function 32 -/
def ct_reals_Canon (g : Int → Option Int) : Ct where
  nin := 0
  mv := []
  F := fun tvs blks {β} K => match tvs, blks with
    | [.v (.one (.d (.int .u64) a0))], [] => (g a0).bind fun r => K ⟨.v (.one (.d (.int .u64) r)), []⟩
    | _, _ => none
  legit := fun tvs blks K r h => by
    split at h
    · obtain ⟨x, hx, hk⟩ := Option.bind_eq_some_iff.1 h
      refine ⟨_, ?_, hk⟩
      simp only [hx, Option.bind_some]
    · simp at h
noncomputable def env_reals_Canon (g39 : Int → Option Nat)  : FEnv := { P := Go.Proofs.Try.prog, ct := fun m => if m = 39 then some (ct_math_Float64frombits g39) else none, N := 10, body := Go.Proofs.Try.f32.body.getD .skip, rvs := [.tmp 2], rts := [36], nin := 0, rmv := [], segs := [] }
def reals_Canon.c {β : Type} (g39 : Int → Option Nat)  (a0 : Int) (ret : Int → Option β) : Option β := ((g39 a0).bind fun r0 => (bif ((Ieee.Format.order (FloatKind.format FloatKind.f64) r0 r0) != (Option.some Ordering.eq)) then (ret ((9221120237041090560 : Int))) else (ret (a0))))
theorem reals_Canon.c_bind {β : Type} (g39 : Int → Option Nat)  (a0 : Int) (ret : Int → Option β) : reals_Canon.c g39  a0 ret = (reals_Canon.c g39  a0 some).bind ret := by
  simp only [reals_Canon.c, bif_bind, sum_bind, Option.bind_assoc, Option.bind_some, Option.bind_none, Option.bind_fun_some]
theorem reals_Canon.ev (g39 : Int → Option Nat)  (a0 : Int) : evAt (env_reals_Canon g39 ) [] [0] [.v (.one (.d (.int .u64) a0))] [] some = reals_Canon.c g39  a0 (fun r => some ⟨.v (.one (.d (.int .u64) r)), []⟩) := by
  kernel_rfl
def reals_Canon.f (k : Nat) (a0 : Int) : Option Int := reals_Canon.c (math_Float64frombits.f k)  a0 some
theorem reals_Canon.is (g39 : Int → Option Nat)  : FnIs (env_reals_Canon g39 ) 32 Go.Proofs.Try.f32 := ⟨Go.Proofs.Try.func32, rfl, rfl, rfl, by decide⟩
theorem reals_Canon.envok (g39 : Int → Option Nat)  (h39 : CtOK Go.Proofs.Try.prog 39 (ct_math_Float64frombits g39)) : EnvOK (env_reals_Canon g39 ).toEnv := by
  intro f c h
  simp only [env_reals_Canon] at h
  split at h
  · rename_i e; subst e; cases h; exact h39
  simp at h
theorem reals_Canon.ok (k : Nat) : CtOK Go.Proofs.Try.prog 32 (ct_reals_Canon (reals_Canon.f k)) := by
  refine ct_of_ev (E := env_reals_Canon (math_Float64frombits.f k) ) (reals_Canon.is _ ) (reals_Canon.envok _  (math_Float64frombits.ok k)) (fun s hs => by simp [env_reals_Canon] at hs) rfl ?_
  intro tvs blks res h
  simp only [ct_reals_Canon] at h
  split at h
  · refine (reals_Canon.ev (math_Float64frombits.f k)  _ ).trans ?_
    rw [reals_Canon.c_bind]
    exact h
  · simp at h
end Go.Proofs.Ytchlbajnmhffpaa.Aev
