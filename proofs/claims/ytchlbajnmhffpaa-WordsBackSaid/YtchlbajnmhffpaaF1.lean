/- By a program of this session (AEV): functions of the program as plain functions, and that the machine does what they say. -/
import Derived.Test.YtchlbajnmhffpaaAevW
import Derived.Test.YtchlbajnmhffpaaProg
import Derived.Laws.Externs
import Derived.Lib.Bytealg
namespace Go.Proofs.Ytchlbajnmhffpaa.Aev
set_option linter.unusedVariables false
set_option linter.unusedSimpArgs false
set_option maxRecDepth 100000
set_option maxHeartbeats 4000000
open Go
/-! ### words_Quote: function 11 -/
def ct_words_Quote (g : ByteArray → Option ByteArray) : Ct where
  nin := 0
  mv := []
  F := fun tvs blks {β} K => match tvs, blks with
    | [.v (.one (.d .str a0))], [] => (g a0).bind fun r => K ⟨.v (.one (.d .str r)), []⟩
    | _, _ => none
  legit := fun tvs blks K r h => by
    split at h
    · obtain ⟨x, hx, hk⟩ := Option.bind_eq_some_iff.1 h
      refine ⟨_, ?_, hk⟩
      simp only [hx, Option.bind_some]
    · simp at h
def seg_words_Quote_0 (g : (List Int) → Int → Int → (List Int) → Option ByteArray) : Seg where
  path := [4, 1, 0, 1, 1]
  prep := [.own 3 (.int .u8)]
  keep := [3, 8, 9, 10]
  F := fun tvs blks {β} K => match tvs, blks with
    | [.v (.one (.own 0)), .v (.one (.d (.sl (.int .u8)) x0)), .v (.one (.d (.int .i64) x1)), .v (.one (.d (.int .i64) x2))], [some (.own (.int .u8) false x3)] => (g x0 x1 x2 x3).bind fun r => K ⟨.v (.one (.d .str r)), []⟩
    | _, _ => none
  legit := fun tvs blks K r h => by
    split at h
    · obtain ⟨x, hx, hk⟩ := Option.bind_eq_some_iff.1 h
      refine ⟨_, ?_, hk⟩
      simp only [hx, Option.bind_some]
    · simp at h
def seg_words_Quote_1 (g : Int → (List Int) → Int → Int → Bool → (List Int) → Option ByteArray) : Seg where
  path := [1, 4, 1, 4, 0, 1, 1, 5, 4, 1, 0, 1, 1]
  prep := []
  keep := [3, 5, 8, 9, 10, 18]
  F := fun tvs blks {β} K => match tvs, blks with
    | [.v (.one (.own 0)), .v (.one (.d (.int .u8) x0)), .v (.one (.d (.sl (.int .u8)) x1)), .v (.one (.d (.int .i64) x2)), .v (.one (.d (.int .i64) x3)), .v (.one (.d .bool x4))], [some (.own (.int .u8) false x5)] => (g x0 x1 x2 x3 x4 x5).bind fun r => K ⟨.v (.one (.d .str r)), []⟩
    | _, _ => none
  legit := fun tvs blks K r h => by
    split at h
    · obtain ⟨x, hx, hk⟩ := Option.bind_eq_some_iff.1 h
      refine ⟨_, ?_, hk⟩
      simp only [hx, Option.bind_some]
    · simp at h
def seg_words_Quote_2 (g : Int → (List Int) → Int → Int → Bool → (List Int) → Option ByteArray) : Seg where
  path := [1, 3, 1, 4, 1, 4, 0, 1, 1, 5, 4, 1, 0, 1, 1]
  prep := []
  keep := [3, 5, 8, 9, 10, 27]
  F := fun tvs blks {β} K => match tvs, blks with
    | [.v (.one (.own 0)), .v (.one (.d (.int .u8) x0)), .v (.one (.d (.sl (.int .u8)) x1)), .v (.one (.d (.int .i64) x2)), .v (.one (.d (.int .i64) x3)), .v (.one (.d .bool x4))], [some (.own (.int .u8) false x5)] => (g x0 x1 x2 x3 x4 x5).bind fun r => K ⟨.v (.one (.d .str r)), []⟩
    | _, _ => none
  legit := fun tvs blks K r h => by
    split at h
    · obtain ⟨x, hx, hk⟩ := Option.bind_eq_some_iff.1 h
      refine ⟨_, ?_, hk⟩
      simp only [hx, Option.bind_some]
    · simp at h
def seg_words_Quote_3 (g : (List Int) → Int → Int → (List Int) → Option ByteArray) : Seg where
  path := [1, 1, 1, 5, 4, 1, 0, 1, 1]
  prep := []
  keep := [3, 8, 9, 10]
  F := fun tvs blks {β} K => match tvs, blks with
    | [.v (.one (.own 0)), .v (.one (.d (.sl (.int .u8)) x0)), .v (.one (.d (.int .i64) x1)), .v (.one (.d (.int .i64) x2))], [some (.own (.int .u8) false x3)] => (g x0 x1 x2 x3).bind fun r => K ⟨.v (.one (.d .str r)), []⟩
    | _, _ => none
  legit := fun tvs blks K r h => by
    split at h
    · obtain ⟨x, hx, hk⟩ := Option.bind_eq_some_iff.1 h
      refine ⟨_, ?_, hk⟩
      simp only [hx, Option.bind_some]
    · simp at h
noncomputable def env_words_Quote  (s0 : (List Int) → Int → Int → (List Int) → Option ByteArray) (s1 : Int → (List Int) → Int → Int → Bool → (List Int) → Option ByteArray) (s2 : Int → (List Int) → Int → Int → Bool → (List Int) → Option ByteArray) (s3 : (List Int) → Int → Int → (List Int) → Option ByteArray) : FEnv := { P := Go.Proofs.Try.prog, ct := fun m => none, N := 46, body := Go.Proofs.Try.f11.body.getD .skip, rvs := [.tmp 2], rts := [9], nin := 0, rmv := [], segs := [seg_words_Quote_0 s0, seg_words_Quote_1 s1, seg_words_Quote_2 s2, seg_words_Quote_3 s3] }
def words_Quote.c {β : Type}  (s0 : (List Int) → Int → Int → (List Int) → Option ByteArray) (s1 : Int → (List Int) → Int → Int → Bool → (List Int) → Option ByteArray) (s2 : Int → (List Int) → Int → Int → Bool → (List Int) → Option ByteArray) (s3 : (List Int) → Int → Int → (List Int) → Option ByteArray) (a0 : ByteArray) (ret : ByteArray → Option β) : Option β := ((s0 (List.map (fun b => ((UInt8.toNat b) : Int)) (Array.toList (ByteArray.data a0))) ((List.length (List.map (fun b => ((UInt8.toNat b) : Int)) (Array.toList (ByteArray.data a0)))) : Int) (0 : Int) [(34 : Int)]).bind ret)
def words_Quote.s0c {β : Type}  (s0 : (List Int) → Int → Int → (List Int) → Option ByteArray) (s1 : Int → (List Int) → Int → Int → Bool → (List Int) → Option ByteArray) (s2 : Int → (List Int) → Int → Int → Bool → (List Int) → Option ByteArray) (s3 : (List Int) → Int → Int → (List Int) → Option ByteArray) (x0 : List Int) (x1 : Int) (x2 : Int) (x3 : List Int) (ret : ByteArray → Option β) : Option β := (bif (decide (x2 < x1)) then (bif ((decide ((0 : Int) ≤ x2)) && (decide (x2 < ((List.length x0) : Int)))) then (bif ((elem (Ty.int IntKind.u8) x0 x2) == (34 : Int)) then ((s1 (elem (Ty.int IntKind.u8) x0 x2) x0 x1 x2 ((elem (Ty.int IntKind.u8) x0 x2) == (34 : Int)) x3).bind ret) else ((s1 (elem (Ty.int IntKind.u8) x0 x2) x0 x1 x2 ((elem (Ty.int IntKind.u8) x0 x2) == (92 : Int)) x3).bind ret)) else none) else (bif (decide ((((List.length x3) + (1 : Nat)) * (1 : Nat)) ≤ (35184372088832 : Nat))) then (ret ((ByteArray.mk (List.toArray (List.map (fun n => (UInt8.ofNat (Int.toNat n))) (x3 ++ [(34 : Int)])))))) else none))
def words_Quote.s1c {β : Type}  (s0 : (List Int) → Int → Int → (List Int) → Option ByteArray) (s1 : Int → (List Int) → Int → Int → Bool → (List Int) → Option ByteArray) (s2 : Int → (List Int) → Int → Int → Bool → (List Int) → Option ByteArray) (s3 : (List Int) → Int → Int → (List Int) → Option ByteArray) (x0 : Int) (x1 : List Int) (x2 : Int) (x3 : Int) (x4 : Bool) (x5 : List Int) (ret : ByteArray → Option β) : Option β := (bif x4 then (bif (decide ((((List.length x5) + (2 : Nat)) * (1 : Nat)) ≤ (35184372088832 : Nat))) then ((s3 x1 x2 x3 (x5 ++ [(92 : Int), x0])).bind ret) else none) else (bif (decide (x0 < (32 : Int))) then ((s2 x0 x1 x2 x3 (decide (x0 < (32 : Int))) x5).bind ret) else ((s2 x0 x1 x2 x3 (decide (x0 > (126 : Int))) x5).bind ret)))
def words_Quote.s2c {β : Type}  (s0 : (List Int) → Int → Int → (List Int) → Option ByteArray) (s1 : Int → (List Int) → Int → Int → Bool → (List Int) → Option ByteArray) (s2 : Int → (List Int) → Int → Int → Bool → (List Int) → Option ByteArray) (s3 : (List Int) → Int → Int → (List Int) → Option ByteArray) (x0 : Int) (x1 : List Int) (x2 : Int) (x3 : Int) (x4 : Bool) (x5 : List Int) (ret : ByteArray → Option β) : Option β := (bif x4 then (bif ((decide ((0 : Int) ≤ (Int.fdiv x0 (16 : Int)))) && (decide ((Int.fdiv x0 (16 : Int)) < (16 : Int)))) then (bif (true && (decide ((IntKind.wrap IntKind.u8 ((BitVec.toNat ((BitVec.ofInt (8 : Nat) x0) &&& (BitVec.ofInt (8 : Nat) (15 : Int)))) : Int)) < (16 : Int)))) then (bif (decide ((((List.length x5) + (4 : Nat)) * (1 : Nat)) ≤ (35184372088832 : Nat))) then ((s3 x1 x2 x3 (x5 ++ [(92 : Int), (120 : Int), (bt (ByteArray.mk (List.toArray [(48 : UInt8), (49 : UInt8), (50 : UInt8), (51 : UInt8), (52 : UInt8), (53 : UInt8), (54 : UInt8), (55 : UInt8), (56 : UInt8), (57 : UInt8), (97 : UInt8), (98 : UInt8), (99 : UInt8), (100 : UInt8), (101 : UInt8), (102 : UInt8)])) (Int.fdiv x0 (16 : Int))), (bt (ByteArray.mk (List.toArray [(48 : UInt8), (49 : UInt8), (50 : UInt8), (51 : UInt8), (52 : UInt8), (53 : UInt8), (54 : UInt8), (55 : UInt8), (56 : UInt8), (57 : UInt8), (97 : UInt8), (98 : UInt8), (99 : UInt8), (100 : UInt8), (101 : UInt8), (102 : UInt8)])) (IntKind.wrap IntKind.u8 ((BitVec.toNat ((BitVec.ofInt (8 : Nat) x0) &&& (BitVec.ofInt (8 : Nat) (15 : Int)))) : Int)))])).bind ret) else none) else none) else none) else (bif (decide ((((List.length x5) + (1 : Nat)) * (1 : Nat)) ≤ (35184372088832 : Nat))) then ((s3 x1 x2 x3 (x5 ++ [x0])).bind ret) else none))
def words_Quote.s3c {β : Type}  (s0 : (List Int) → Int → Int → (List Int) → Option ByteArray) (s1 : Int → (List Int) → Int → Int → Bool → (List Int) → Option ByteArray) (s2 : Int → (List Int) → Int → Int → Bool → (List Int) → Option ByteArray) (s3 : (List Int) → Int → Int → (List Int) → Option ByteArray) (x0 : List Int) (x1 : Int) (x2 : Int) (x3 : List Int) (ret : ByteArray → Option β) : Option β := ((s0 x0 x1 (IntKind.wrap IntKind.i64 (x2 + (1 : Int))) x3).bind ret)
theorem words_Quote.c_bind {β : Type}  (s0 : (List Int) → Int → Int → (List Int) → Option ByteArray) (s1 : Int → (List Int) → Int → Int → Bool → (List Int) → Option ByteArray) (s2 : Int → (List Int) → Int → Int → Bool → (List Int) → Option ByteArray) (s3 : (List Int) → Int → Int → (List Int) → Option ByteArray) (a0 : ByteArray) (ret : ByteArray → Option β) : words_Quote.c  s0 s1 s2 s3 a0 ret = (words_Quote.c  s0 s1 s2 s3 a0 some).bind ret := by
  simp only [words_Quote.c, bif_bind, sum_bind, Option.bind_assoc, Option.bind_some, Option.bind_none, Option.bind_fun_some]
theorem words_Quote.s0c_bind {β : Type}  (s0 : (List Int) → Int → Int → (List Int) → Option ByteArray) (s1 : Int → (List Int) → Int → Int → Bool → (List Int) → Option ByteArray) (s2 : Int → (List Int) → Int → Int → Bool → (List Int) → Option ByteArray) (s3 : (List Int) → Int → Int → (List Int) → Option ByteArray) (x0 : List Int) (x1 : Int) (x2 : Int) (x3 : List Int) (ret : ByteArray → Option β) : words_Quote.s0c  s0 s1 s2 s3 x0 x1 x2 x3 ret = (words_Quote.s0c  s0 s1 s2 s3 x0 x1 x2 x3 some).bind ret := by
  simp only [words_Quote.s0c, bif_bind, sum_bind, Option.bind_assoc, Option.bind_some, Option.bind_none, Option.bind_fun_some]
theorem words_Quote.s1c_bind {β : Type}  (s0 : (List Int) → Int → Int → (List Int) → Option ByteArray) (s1 : Int → (List Int) → Int → Int → Bool → (List Int) → Option ByteArray) (s2 : Int → (List Int) → Int → Int → Bool → (List Int) → Option ByteArray) (s3 : (List Int) → Int → Int → (List Int) → Option ByteArray) (x0 : Int) (x1 : List Int) (x2 : Int) (x3 : Int) (x4 : Bool) (x5 : List Int) (ret : ByteArray → Option β) : words_Quote.s1c  s0 s1 s2 s3 x0 x1 x2 x3 x4 x5 ret = (words_Quote.s1c  s0 s1 s2 s3 x0 x1 x2 x3 x4 x5 some).bind ret := by
  simp only [words_Quote.s1c, bif_bind, sum_bind, Option.bind_assoc, Option.bind_some, Option.bind_none, Option.bind_fun_some]
theorem words_Quote.s2c_bind {β : Type}  (s0 : (List Int) → Int → Int → (List Int) → Option ByteArray) (s1 : Int → (List Int) → Int → Int → Bool → (List Int) → Option ByteArray) (s2 : Int → (List Int) → Int → Int → Bool → (List Int) → Option ByteArray) (s3 : (List Int) → Int → Int → (List Int) → Option ByteArray) (x0 : Int) (x1 : List Int) (x2 : Int) (x3 : Int) (x4 : Bool) (x5 : List Int) (ret : ByteArray → Option β) : words_Quote.s2c  s0 s1 s2 s3 x0 x1 x2 x3 x4 x5 ret = (words_Quote.s2c  s0 s1 s2 s3 x0 x1 x2 x3 x4 x5 some).bind ret := by
  simp only [words_Quote.s2c, bif_bind, sum_bind, Option.bind_assoc, Option.bind_some, Option.bind_none, Option.bind_fun_some]
theorem words_Quote.s3c_bind {β : Type}  (s0 : (List Int) → Int → Int → (List Int) → Option ByteArray) (s1 : Int → (List Int) → Int → Int → Bool → (List Int) → Option ByteArray) (s2 : Int → (List Int) → Int → Int → Bool → (List Int) → Option ByteArray) (s3 : (List Int) → Int → Int → (List Int) → Option ByteArray) (x0 : List Int) (x1 : Int) (x2 : Int) (x3 : List Int) (ret : ByteArray → Option β) : words_Quote.s3c  s0 s1 s2 s3 x0 x1 x2 x3 ret = (words_Quote.s3c  s0 s1 s2 s3 x0 x1 x2 x3 some).bind ret := by
  simp only [words_Quote.s3c, bif_bind, sum_bind, Option.bind_assoc, Option.bind_some, Option.bind_none, Option.bind_fun_some]
theorem words_Quote.ev  (s0 : (List Int) → Int → Int → (List Int) → Option ByteArray) (s1 : Int → (List Int) → Int → Int → Bool → (List Int) → Option ByteArray) (s2 : Int → (List Int) → Int → Int → Bool → (List Int) → Option ByteArray) (s3 : (List Int) → Int → Int → (List Int) → Option ByteArray) (a0 : ByteArray) : evAt (env_words_Quote  s0 s1 s2 s3) [] [0] [.v (.one (.d .str a0))] [] some = words_Quote.c  s0 s1 s2 s3 a0 (fun r => some ⟨.v (.one (.d .str r)), []⟩) := by
  kernel_rfl
theorem words_Quote.s0_ev  (s0 : (List Int) → Int → Int → (List Int) → Option ByteArray) (s1 : Int → (List Int) → Int → Int → Bool → (List Int) → Option ByteArray) (s2 : Int → (List Int) → Int → Int → Bool → (List Int) → Option ByteArray) (s3 : (List Int) → Int → Int → (List Int) → Option ByteArray) (x0 : List Int) (x1 : Int) (x2 : Int) (x3 : List Int) : evAt (env_words_Quote  s0 s1 s2 s3) [4, 1, 0, 1, 1] [3, 8, 9, 10] [.v (.one (.own 0)), .v (.one (.d (.sl (.int .u8)) x0)), .v (.one (.d (.int .i64) x1)), .v (.one (.d (.int .i64) x2))] [some (.own (.int .u8) false x3)] some = words_Quote.s0c  s0 s1 s2 s3 x0 x1 x2 x3 (fun r => some ⟨.v (.one (.d .str r)), []⟩) := by
  kernel_rfl
theorem words_Quote.s1_ev  (s0 : (List Int) → Int → Int → (List Int) → Option ByteArray) (s1 : Int → (List Int) → Int → Int → Bool → (List Int) → Option ByteArray) (s2 : Int → (List Int) → Int → Int → Bool → (List Int) → Option ByteArray) (s3 : (List Int) → Int → Int → (List Int) → Option ByteArray) (x0 : Int) (x1 : List Int) (x2 : Int) (x3 : Int) (x4 : Bool) (x5 : List Int) : evAt (env_words_Quote  s0 s1 s2 s3) [1, 4, 1, 4, 0, 1, 1, 5, 4, 1, 0, 1, 1] [3, 5, 8, 9, 10, 18] [.v (.one (.own 0)), .v (.one (.d (.int .u8) x0)), .v (.one (.d (.sl (.int .u8)) x1)), .v (.one (.d (.int .i64) x2)), .v (.one (.d (.int .i64) x3)), .v (.one (.d .bool x4))] [some (.own (.int .u8) false x5)] some = words_Quote.s1c  s0 s1 s2 s3 x0 x1 x2 x3 x4 x5 (fun r => some ⟨.v (.one (.d .str r)), []⟩) := by
  kernel_rfl
theorem words_Quote.s2_ev  (s0 : (List Int) → Int → Int → (List Int) → Option ByteArray) (s1 : Int → (List Int) → Int → Int → Bool → (List Int) → Option ByteArray) (s2 : Int → (List Int) → Int → Int → Bool → (List Int) → Option ByteArray) (s3 : (List Int) → Int → Int → (List Int) → Option ByteArray) (x0 : Int) (x1 : List Int) (x2 : Int) (x3 : Int) (x4 : Bool) (x5 : List Int) : evAt (env_words_Quote  s0 s1 s2 s3) [1, 3, 1, 4, 1, 4, 0, 1, 1, 5, 4, 1, 0, 1, 1] [3, 5, 8, 9, 10, 27] [.v (.one (.own 0)), .v (.one (.d (.int .u8) x0)), .v (.one (.d (.sl (.int .u8)) x1)), .v (.one (.d (.int .i64) x2)), .v (.one (.d (.int .i64) x3)), .v (.one (.d .bool x4))] [some (.own (.int .u8) false x5)] some = words_Quote.s2c  s0 s1 s2 s3 x0 x1 x2 x3 x4 x5 (fun r => some ⟨.v (.one (.d .str r)), []⟩) := by
  kernel_rfl
theorem words_Quote.s3_ev  (s0 : (List Int) → Int → Int → (List Int) → Option ByteArray) (s1 : Int → (List Int) → Int → Int → Bool → (List Int) → Option ByteArray) (s2 : Int → (List Int) → Int → Int → Bool → (List Int) → Option ByteArray) (s3 : (List Int) → Int → Int → (List Int) → Option ByteArray) (x0 : List Int) (x1 : Int) (x2 : Int) (x3 : List Int) : evAt (env_words_Quote  s0 s1 s2 s3) [1, 1, 1, 5, 4, 1, 0, 1, 1] [3, 8, 9, 10] [.v (.one (.own 0)), .v (.one (.d (.sl (.int .u8)) x0)), .v (.one (.d (.int .i64) x1)), .v (.one (.d (.int .i64) x2))] [some (.own (.int .u8) false x3)] some = words_Quote.s3c  s0 s1 s2 s3 x0 x1 x2 x3 (fun r => some ⟨.v (.one (.d .str r)), []⟩) := by
  kernel_rfl
mutual
def words_Quote.s0 : Nat → (List Int) → Int → Int → (List Int) → Option ByteArray
  | 0, _, _, _, _ => none
  | k + 1, x0, x1, x2, x3 => words_Quote.s0c  (words_Quote.s0 k) (words_Quote.s1 k) (words_Quote.s2 k) (words_Quote.s3 k) x0 x1 x2 x3 some
def words_Quote.s1 : Nat → Int → (List Int) → Int → Int → Bool → (List Int) → Option ByteArray
  | 0, _, _, _, _, _, _ => none
  | k + 1, x0, x1, x2, x3, x4, x5 => words_Quote.s1c  (words_Quote.s0 k) (words_Quote.s1 k) (words_Quote.s2 k) (words_Quote.s3 k) x0 x1 x2 x3 x4 x5 some
def words_Quote.s2 : Nat → Int → (List Int) → Int → Int → Bool → (List Int) → Option ByteArray
  | 0, _, _, _, _, _, _ => none
  | k + 1, x0, x1, x2, x3, x4, x5 => words_Quote.s2c  (words_Quote.s0 k) (words_Quote.s1 k) (words_Quote.s2 k) (words_Quote.s3 k) x0 x1 x2 x3 x4 x5 some
def words_Quote.s3 : Nat → (List Int) → Int → Int → (List Int) → Option ByteArray
  | 0, _, _, _, _ => none
  | k + 1, x0, x1, x2, x3 => words_Quote.s3c  (words_Quote.s0 k) (words_Quote.s1 k) (words_Quote.s2 k) (words_Quote.s3 k) x0 x1 x2 x3 some
end
def words_Quote.f (k : Nat) (a0 : ByteArray) : Option ByteArray := words_Quote.c  (words_Quote.s0 k) (words_Quote.s1 k) (words_Quote.s2 k) (words_Quote.s3 k) a0 some
theorem words_Quote.is  (s0 : (List Int) → Int → Int → (List Int) → Option ByteArray) (s1 : Int → (List Int) → Int → Int → Bool → (List Int) → Option ByteArray) (s2 : Int → (List Int) → Int → Int → Bool → (List Int) → Option ByteArray) (s3 : (List Int) → Int → Int → (List Int) → Option ByteArray) : FnIs (env_words_Quote  s0 s1 s2 s3) 11 Go.Proofs.Try.f11 := ⟨Go.Proofs.Try.func11, rfl, rfl, rfl, by decide⟩
theorem words_Quote.envok  (s0 : (List Int) → Int → Int → (List Int) → Option ByteArray) (s1 : Int → (List Int) → Int → Int → Bool → (List Int) → Option ByteArray) (s2 : Int → (List Int) → Int → Int → Bool → (List Int) → Option ByteArray) (s3 : (List Int) → Int → Int → (List Int) → Option ByteArray)  : EnvOK (env_words_Quote  s0 s1 s2 s3).toEnv := by
  intro f c h
  simp only [env_words_Quote] at h
  simp at h
theorem words_Quote.segs_ok : ∀ k, ∀ s ∈ (env_words_Quote  (words_Quote.s0 k) (words_Quote.s1 k) (words_Quote.s2 k) (words_Quote.s3 k)).segs, SegOK (env_words_Quote  (words_Quote.s0 k) (words_Quote.s1 k) (words_Quote.s2 k) (words_Quote.s3 k)) Go.Proofs.Try.f11 s
  | 0 => by
    intro s hs
    simp only [env_words_Quote, List.mem_cons, List.not_mem_nil, or_false] at hs
    rcases hs with rfl | rfl | rfl | rfl
    · intro tvs blks res h; exfalso; simp only [seg_words_Quote_0] at h; split at h <;> simp [words_Quote.s0] at h
    · intro tvs blks res h; exfalso; simp only [seg_words_Quote_1] at h; split at h <;> simp [words_Quote.s1] at h
    · intro tvs blks res h; exfalso; simp only [seg_words_Quote_2] at h; split at h <;> simp [words_Quote.s2] at h
    · intro tvs blks res h; exfalso; simp only [seg_words_Quote_3] at h; split at h <;> simp [words_Quote.s3] at h
  | k + 1 => by
    have ih := words_Quote.segs_ok k
    intro s hs
    simp only [env_words_Quote, List.mem_cons, List.not_mem_nil, or_false] at hs
    rcases hs with rfl | rfl | rfl | rfl
    · refine seg_of_ev (E := env_words_Quote  (words_Quote.s0 k) (words_Quote.s1 k) (words_Quote.s2 k) (words_Quote.s3 k)) (words_Quote.envok _ _ _ _  ) ⟨(words_Quote.is  (words_Quote.s0 k) (words_Quote.s1 k) (words_Quote.s2 k) (words_Quote.s3 k)).rvs⟩ ih ?_
      intro tvs blks res h
      simp only [seg_words_Quote_0] at h
      split at h
      · refine (words_Quote.s0_ev  (words_Quote.s0 k) (words_Quote.s1 k) (words_Quote.s2 k) (words_Quote.s3 k) _ _ _ _ ).trans ?_
        rw [words_Quote.s0c_bind]
        exact h
      · simp at h
    · refine seg_of_ev (E := env_words_Quote  (words_Quote.s0 k) (words_Quote.s1 k) (words_Quote.s2 k) (words_Quote.s3 k)) (words_Quote.envok _ _ _ _  ) ⟨(words_Quote.is  (words_Quote.s0 k) (words_Quote.s1 k) (words_Quote.s2 k) (words_Quote.s3 k)).rvs⟩ ih ?_
      intro tvs blks res h
      simp only [seg_words_Quote_1] at h
      split at h
      · refine (words_Quote.s1_ev  (words_Quote.s0 k) (words_Quote.s1 k) (words_Quote.s2 k) (words_Quote.s3 k) _ _ _ _ _ _ ).trans ?_
        rw [words_Quote.s1c_bind]
        exact h
      · simp at h
    · refine seg_of_ev (E := env_words_Quote  (words_Quote.s0 k) (words_Quote.s1 k) (words_Quote.s2 k) (words_Quote.s3 k)) (words_Quote.envok _ _ _ _  ) ⟨(words_Quote.is  (words_Quote.s0 k) (words_Quote.s1 k) (words_Quote.s2 k) (words_Quote.s3 k)).rvs⟩ ih ?_
      intro tvs blks res h
      simp only [seg_words_Quote_2] at h
      split at h
      · refine (words_Quote.s2_ev  (words_Quote.s0 k) (words_Quote.s1 k) (words_Quote.s2 k) (words_Quote.s3 k) _ _ _ _ _ _ ).trans ?_
        rw [words_Quote.s2c_bind]
        exact h
      · simp at h
    · refine seg_of_ev (E := env_words_Quote  (words_Quote.s0 k) (words_Quote.s1 k) (words_Quote.s2 k) (words_Quote.s3 k)) (words_Quote.envok _ _ _ _  ) ⟨(words_Quote.is  (words_Quote.s0 k) (words_Quote.s1 k) (words_Quote.s2 k) (words_Quote.s3 k)).rvs⟩ ih ?_
      intro tvs blks res h
      simp only [seg_words_Quote_3] at h
      split at h
      · refine (words_Quote.s3_ev  (words_Quote.s0 k) (words_Quote.s1 k) (words_Quote.s2 k) (words_Quote.s3 k) _ _ _ _ ).trans ?_
        rw [words_Quote.s3c_bind]
        exact h
      · simp at h
theorem words_Quote.ok (k : Nat) : CtOK Go.Proofs.Try.prog 11 (ct_words_Quote (words_Quote.f k)) := by
  refine ct_of_ev (E := env_words_Quote  (words_Quote.s0 k) (words_Quote.s1 k) (words_Quote.s2 k) (words_Quote.s3 k)) (words_Quote.is _ _ _ _ ) (words_Quote.envok _ _ _ _  ) (words_Quote.segs_ok k) rfl ?_
  intro tvs blks res h
  simp only [ct_words_Quote] at h
  split at h
  · refine (words_Quote.ev  (words_Quote.s0 k) (words_Quote.s1 k) (words_Quote.s2 k) (words_Quote.s3 k) _ ).trans ?_
    rw [words_Quote.c_bind]
    exact h
  · simp at h

/-! ### words_hex: function 22 -/
def ct_words_hex (g : ByteArray → Option Int) : Ct where
  nin := 0
  mv := []
  F := fun tvs blks {β} K => match tvs, blks with
    | [.v (.one (.d .str a0))], [] => (g a0).bind fun r => K ⟨.v (.one (.d (.int .u8) r)), []⟩
    | _, _ => none
  legit := fun tvs blks K r h => by
    split at h
    · obtain ⟨x, hx, hk⟩ := Option.bind_eq_some_iff.1 h
      refine ⟨_, ?_, hk⟩
      simp only [hx, Option.bind_some]
    · simp at h
def seg_words_hex_0 (g : Int → (List Int) → Int → Int → Option Int) : Seg where
  path := [4, 1, 0, 1, 1]
  prep := []
  keep := [3, 8, 9, 10]
  F := fun tvs blks {β} K => match tvs, blks with
    | [.v (.one (.d (.int .i64) x0)), .v (.one (.d (.sl (.int .u8)) x1)), .v (.one (.d (.int .i64) x2)), .v (.one (.d (.int .i64) x3))], [] => (g x0 x1 x2 x3).bind fun r => K ⟨.v (.one (.d (.int .u8) r)), []⟩
    | _, _ => none
  legit := fun tvs blks K r h => by
    split at h
    · obtain ⟨x, hx, hk⟩ := Option.bind_eq_some_iff.1 h
      refine ⟨_, ?_, hk⟩
      simp only [hx, Option.bind_some]
    · simp at h
def seg_words_hex_1 (g : Int → Int → (List Int) → Int → Int → Int → Option Int) : Seg where
  path := [4, 1, 1, 1, 4, 0, 1, 1, 5, 4, 1, 0, 1, 1]
  prep := []
  keep := [3, 5, 8, 9, 10, 16]
  F := fun tvs blks {β} K => match tvs, blks with
    | [.v (.one (.d (.int .i64) x0)), .v (.one (.d (.int .u8) x1)), .v (.one (.d (.sl (.int .u8)) x2)), .v (.one (.d (.int .i64) x3)), .v (.one (.d (.int .i64) x4)), .v (.one (.d (.int .i64) x5))], [] => (g x0 x1 x2 x3 x4 x5).bind fun r => K ⟨.v (.one (.d (.int .u8) r)), []⟩
    | _, _ => none
  legit := fun tvs blks K r h => by
    split at h
    · obtain ⟨x, hx, hk⟩ := Option.bind_eq_some_iff.1 h
      refine ⟨_, ?_, hk⟩
      simp only [hx, Option.bind_some]
    · simp at h
def seg_words_hex_2 (g : Int → Int → (List Int) → Int → Int → Int → Option Int) : Seg where
  path := [1, 1, 1, 5, 4, 1, 1, 1, 4, 0, 1, 1, 5, 4, 1, 0, 1, 1]
  prep := []
  keep := [3, 5, 8, 9, 10, 16]
  F := fun tvs blks {β} K => match tvs, blks with
    | [.v (.one (.d (.int .i64) x0)), .v (.one (.d (.int .u8) x1)), .v (.one (.d (.sl (.int .u8)) x2)), .v (.one (.d (.int .i64) x3)), .v (.one (.d (.int .i64) x4)), .v (.one (.d (.int .i64) x5))], [] => (g x0 x1 x2 x3 x4 x5).bind fun r => K ⟨.v (.one (.d (.int .u8) r)), []⟩
    | _, _ => none
  legit := fun tvs blks K r h => by
    split at h
    · obtain ⟨x, hx, hk⟩ := Option.bind_eq_some_iff.1 h
      refine ⟨_, ?_, hk⟩
      simp only [hx, Option.bind_some]
    · simp at h
noncomputable def env_words_hex  (s0 : Int → (List Int) → Int → Int → Option Int) (s1 : Int → Int → (List Int) → Int → Int → Int → Option Int) (s2 : Int → Int → (List Int) → Int → Int → Int → Option Int) : FEnv := { P := Go.Proofs.Try.prog, ct := fun m => none, N := 30, body := Go.Proofs.Try.f22.body.getD .skip, rvs := [.tmp 2], rts := [5], nin := 0, rmv := [], segs := [seg_words_hex_0 s0, seg_words_hex_1 s1, seg_words_hex_2 s2] }
def words_hex.c {β : Type}  (s0 : Int → (List Int) → Int → Int → Option Int) (s1 : Int → Int → (List Int) → Int → Int → Int → Option Int) (s2 : Int → Int → (List Int) → Int → Int → Int → Option Int) (a0 : ByteArray) (ret : Int → Option β) : Option β := ((s0 (0 : Int) (List.map (fun b => ((UInt8.toNat b) : Int)) (Array.toList (ByteArray.data a0))) ((List.length (List.map (fun b => ((UInt8.toNat b) : Int)) (Array.toList (ByteArray.data a0)))) : Int) (0 : Int)).bind ret)
def words_hex.s0c {β : Type}  (s0 : Int → (List Int) → Int → Int → Option Int) (s1 : Int → Int → (List Int) → Int → Int → Int → Option Int) (s2 : Int → Int → (List Int) → Int → Int → Int → Option Int) (x0 : Int) (x1 : List Int) (x2 : Int) (x3 : Int) (ret : Int → Option β) : Option β := (bif (decide (x3 < x2)) then (bif ((decide ((0 : Int) ≤ x3)) && (decide (x3 < ((List.length x1) : Int)))) then ((s1 (IntKind.wrap IntKind.i64 (x0 * (16 : Int))) (elem (Ty.int IntKind.u8) x1 x3) x1 x2 x3 (0 : Int)).bind ret) else none) else (ret ((IntKind.wrap IntKind.u8 x0))))
def words_hex.s1c {β : Type}  (s0 : Int → (List Int) → Int → Int → Option Int) (s1 : Int → Int → (List Int) → Int → Int → Int → Option Int) (s2 : Int → Int → (List Int) → Int → Int → Int → Option Int) (x0 : Int) (x1 : Int) (x2 : List Int) (x3 : Int) (x4 : Int) (x5 : Int) (ret : Int → Option β) : Option β := (bif (decide (x5 < (16 : Int))) then (bif ((decide ((0 : Int) ≤ x5)) && (decide (x5 < (16 : Int)))) then (bif ((bt (ByteArray.mk (List.toArray [(48 : UInt8), (49 : UInt8), (50 : UInt8), (51 : UInt8), (52 : UInt8), (53 : UInt8), (54 : UInt8), (55 : UInt8), (56 : UInt8), (57 : UInt8), (97 : UInt8), (98 : UInt8), (99 : UInt8), (100 : UInt8), (101 : UInt8), (102 : UInt8)])) x5) == x1) then ((s2 (IntKind.wrap IntKind.i64 ((BitVec.toNat ((BitVec.ofInt (64 : Nat) x0) ||| (BitVec.ofInt (64 : Nat) x5))) : Int)) x1 x2 x3 x4 x5).bind ret) else ((s2 x0 x1 x2 x3 x4 x5).bind ret)) else none) else ((s0 x0 x2 x3 (IntKind.wrap IntKind.i64 (x4 + (1 : Int)))).bind ret))
def words_hex.s2c {β : Type}  (s0 : Int → (List Int) → Int → Int → Option Int) (s1 : Int → Int → (List Int) → Int → Int → Int → Option Int) (s2 : Int → Int → (List Int) → Int → Int → Int → Option Int) (x0 : Int) (x1 : Int) (x2 : List Int) (x3 : Int) (x4 : Int) (x5 : Int) (ret : Int → Option β) : Option β := ((s1 x0 x1 x2 x3 x4 (IntKind.wrap IntKind.i64 (x5 + (1 : Int)))).bind ret)
theorem words_hex.c_bind {β : Type}  (s0 : Int → (List Int) → Int → Int → Option Int) (s1 : Int → Int → (List Int) → Int → Int → Int → Option Int) (s2 : Int → Int → (List Int) → Int → Int → Int → Option Int) (a0 : ByteArray) (ret : Int → Option β) : words_hex.c  s0 s1 s2 a0 ret = (words_hex.c  s0 s1 s2 a0 some).bind ret := by
  simp only [words_hex.c, bif_bind, sum_bind, Option.bind_assoc, Option.bind_some, Option.bind_none, Option.bind_fun_some]
theorem words_hex.s0c_bind {β : Type}  (s0 : Int → (List Int) → Int → Int → Option Int) (s1 : Int → Int → (List Int) → Int → Int → Int → Option Int) (s2 : Int → Int → (List Int) → Int → Int → Int → Option Int) (x0 : Int) (x1 : List Int) (x2 : Int) (x3 : Int) (ret : Int → Option β) : words_hex.s0c  s0 s1 s2 x0 x1 x2 x3 ret = (words_hex.s0c  s0 s1 s2 x0 x1 x2 x3 some).bind ret := by
  simp only [words_hex.s0c, bif_bind, sum_bind, Option.bind_assoc, Option.bind_some, Option.bind_none, Option.bind_fun_some]
theorem words_hex.s1c_bind {β : Type}  (s0 : Int → (List Int) → Int → Int → Option Int) (s1 : Int → Int → (List Int) → Int → Int → Int → Option Int) (s2 : Int → Int → (List Int) → Int → Int → Int → Option Int) (x0 : Int) (x1 : Int) (x2 : List Int) (x3 : Int) (x4 : Int) (x5 : Int) (ret : Int → Option β) : words_hex.s1c  s0 s1 s2 x0 x1 x2 x3 x4 x5 ret = (words_hex.s1c  s0 s1 s2 x0 x1 x2 x3 x4 x5 some).bind ret := by
  simp only [words_hex.s1c, bif_bind, sum_bind, Option.bind_assoc, Option.bind_some, Option.bind_none, Option.bind_fun_some]
theorem words_hex.s2c_bind {β : Type}  (s0 : Int → (List Int) → Int → Int → Option Int) (s1 : Int → Int → (List Int) → Int → Int → Int → Option Int) (s2 : Int → Int → (List Int) → Int → Int → Int → Option Int) (x0 : Int) (x1 : Int) (x2 : List Int) (x3 : Int) (x4 : Int) (x5 : Int) (ret : Int → Option β) : words_hex.s2c  s0 s1 s2 x0 x1 x2 x3 x4 x5 ret = (words_hex.s2c  s0 s1 s2 x0 x1 x2 x3 x4 x5 some).bind ret := by
  simp only [words_hex.s2c, bif_bind, sum_bind, Option.bind_assoc, Option.bind_some, Option.bind_none, Option.bind_fun_some]
theorem words_hex.ev  (s0 : Int → (List Int) → Int → Int → Option Int) (s1 : Int → Int → (List Int) → Int → Int → Int → Option Int) (s2 : Int → Int → (List Int) → Int → Int → Int → Option Int) (a0 : ByteArray) : evAt (env_words_hex  s0 s1 s2) [] [0] [.v (.one (.d .str a0))] [] some = words_hex.c  s0 s1 s2 a0 (fun r => some ⟨.v (.one (.d (.int .u8) r)), []⟩) := by
  kernel_rfl
theorem words_hex.s0_ev  (s0 : Int → (List Int) → Int → Int → Option Int) (s1 : Int → Int → (List Int) → Int → Int → Int → Option Int) (s2 : Int → Int → (List Int) → Int → Int → Int → Option Int) (x0 : Int) (x1 : List Int) (x2 : Int) (x3 : Int) : evAt (env_words_hex  s0 s1 s2) [4, 1, 0, 1, 1] [3, 8, 9, 10] [.v (.one (.d (.int .i64) x0)), .v (.one (.d (.sl (.int .u8)) x1)), .v (.one (.d (.int .i64) x2)), .v (.one (.d (.int .i64) x3))] [] some = words_hex.s0c  s0 s1 s2 x0 x1 x2 x3 (fun r => some ⟨.v (.one (.d (.int .u8) r)), []⟩) := by
  kernel_rfl
theorem words_hex.s1_ev  (s0 : Int → (List Int) → Int → Int → Option Int) (s1 : Int → Int → (List Int) → Int → Int → Int → Option Int) (s2 : Int → Int → (List Int) → Int → Int → Int → Option Int) (x0 : Int) (x1 : Int) (x2 : List Int) (x3 : Int) (x4 : Int) (x5 : Int) : evAt (env_words_hex  s0 s1 s2) [4, 1, 1, 1, 4, 0, 1, 1, 5, 4, 1, 0, 1, 1] [3, 5, 8, 9, 10, 16] [.v (.one (.d (.int .i64) x0)), .v (.one (.d (.int .u8) x1)), .v (.one (.d (.sl (.int .u8)) x2)), .v (.one (.d (.int .i64) x3)), .v (.one (.d (.int .i64) x4)), .v (.one (.d (.int .i64) x5))] [] some = words_hex.s1c  s0 s1 s2 x0 x1 x2 x3 x4 x5 (fun r => some ⟨.v (.one (.d (.int .u8) r)), []⟩) := by
  kernel_rfl
theorem words_hex.s2_ev  (s0 : Int → (List Int) → Int → Int → Option Int) (s1 : Int → Int → (List Int) → Int → Int → Int → Option Int) (s2 : Int → Int → (List Int) → Int → Int → Int → Option Int) (x0 : Int) (x1 : Int) (x2 : List Int) (x3 : Int) (x4 : Int) (x5 : Int) : evAt (env_words_hex  s0 s1 s2) [1, 1, 1, 5, 4, 1, 1, 1, 4, 0, 1, 1, 5, 4, 1, 0, 1, 1] [3, 5, 8, 9, 10, 16] [.v (.one (.d (.int .i64) x0)), .v (.one (.d (.int .u8) x1)), .v (.one (.d (.sl (.int .u8)) x2)), .v (.one (.d (.int .i64) x3)), .v (.one (.d (.int .i64) x4)), .v (.one (.d (.int .i64) x5))] [] some = words_hex.s2c  s0 s1 s2 x0 x1 x2 x3 x4 x5 (fun r => some ⟨.v (.one (.d (.int .u8) r)), []⟩) := by
  kernel_rfl
mutual
def words_hex.s0 : Nat → Int → (List Int) → Int → Int → Option Int
  | 0, _, _, _, _ => none
  | k + 1, x0, x1, x2, x3 => words_hex.s0c  (words_hex.s0 k) (words_hex.s1 k) (words_hex.s2 k) x0 x1 x2 x3 some
def words_hex.s1 : Nat → Int → Int → (List Int) → Int → Int → Int → Option Int
  | 0, _, _, _, _, _, _ => none
  | k + 1, x0, x1, x2, x3, x4, x5 => words_hex.s1c  (words_hex.s0 k) (words_hex.s1 k) (words_hex.s2 k) x0 x1 x2 x3 x4 x5 some
def words_hex.s2 : Nat → Int → Int → (List Int) → Int → Int → Int → Option Int
  | 0, _, _, _, _, _, _ => none
  | k + 1, x0, x1, x2, x3, x4, x5 => words_hex.s2c  (words_hex.s0 k) (words_hex.s1 k) (words_hex.s2 k) x0 x1 x2 x3 x4 x5 some
end
def words_hex.f (k : Nat) (a0 : ByteArray) : Option Int := words_hex.c  (words_hex.s0 k) (words_hex.s1 k) (words_hex.s2 k) a0 some
theorem words_hex.is  (s0 : Int → (List Int) → Int → Int → Option Int) (s1 : Int → Int → (List Int) → Int → Int → Int → Option Int) (s2 : Int → Int → (List Int) → Int → Int → Int → Option Int) : FnIs (env_words_hex  s0 s1 s2) 22 Go.Proofs.Try.f22 := ⟨Go.Proofs.Try.func22, rfl, rfl, rfl, by decide⟩
theorem words_hex.envok  (s0 : Int → (List Int) → Int → Int → Option Int) (s1 : Int → Int → (List Int) → Int → Int → Int → Option Int) (s2 : Int → Int → (List Int) → Int → Int → Int → Option Int)  : EnvOK (env_words_hex  s0 s1 s2).toEnv := by
  intro f c h
  simp only [env_words_hex] at h
  simp at h
theorem words_hex.segs_ok : ∀ k, ∀ s ∈ (env_words_hex  (words_hex.s0 k) (words_hex.s1 k) (words_hex.s2 k)).segs, SegOK (env_words_hex  (words_hex.s0 k) (words_hex.s1 k) (words_hex.s2 k)) Go.Proofs.Try.f22 s
  | 0 => by
    intro s hs
    simp only [env_words_hex, List.mem_cons, List.not_mem_nil, or_false] at hs
    rcases hs with rfl | rfl | rfl
    · intro tvs blks res h; exfalso; simp only [seg_words_hex_0] at h; split at h <;> simp [words_hex.s0] at h
    · intro tvs blks res h; exfalso; simp only [seg_words_hex_1] at h; split at h <;> simp [words_hex.s1] at h
    · intro tvs blks res h; exfalso; simp only [seg_words_hex_2] at h; split at h <;> simp [words_hex.s2] at h
  | k + 1 => by
    have ih := words_hex.segs_ok k
    intro s hs
    simp only [env_words_hex, List.mem_cons, List.not_mem_nil, or_false] at hs
    rcases hs with rfl | rfl | rfl
    · refine seg_of_ev (E := env_words_hex  (words_hex.s0 k) (words_hex.s1 k) (words_hex.s2 k)) (words_hex.envok _ _ _  ) ⟨(words_hex.is  (words_hex.s0 k) (words_hex.s1 k) (words_hex.s2 k)).rvs⟩ ih ?_
      intro tvs blks res h
      simp only [seg_words_hex_0] at h
      split at h
      · refine (words_hex.s0_ev  (words_hex.s0 k) (words_hex.s1 k) (words_hex.s2 k) _ _ _ _ ).trans ?_
        rw [words_hex.s0c_bind]
        exact h
      · simp at h
    · refine seg_of_ev (E := env_words_hex  (words_hex.s0 k) (words_hex.s1 k) (words_hex.s2 k)) (words_hex.envok _ _ _  ) ⟨(words_hex.is  (words_hex.s0 k) (words_hex.s1 k) (words_hex.s2 k)).rvs⟩ ih ?_
      intro tvs blks res h
      simp only [seg_words_hex_1] at h
      split at h
      · refine (words_hex.s1_ev  (words_hex.s0 k) (words_hex.s1 k) (words_hex.s2 k) _ _ _ _ _ _ ).trans ?_
        rw [words_hex.s1c_bind]
        exact h
      · simp at h
    · refine seg_of_ev (E := env_words_hex  (words_hex.s0 k) (words_hex.s1 k) (words_hex.s2 k)) (words_hex.envok _ _ _  ) ⟨(words_hex.is  (words_hex.s0 k) (words_hex.s1 k) (words_hex.s2 k)).rvs⟩ ih ?_
      intro tvs blks res h
      simp only [seg_words_hex_2] at h
      split at h
      · refine (words_hex.s2_ev  (words_hex.s0 k) (words_hex.s1 k) (words_hex.s2 k) _ _ _ _ _ _ ).trans ?_
        rw [words_hex.s2c_bind]
        exact h
      · simp at h
theorem words_hex.ok (k : Nat) : CtOK Go.Proofs.Try.prog 22 (ct_words_hex (words_hex.f k)) := by
  refine ct_of_ev (E := env_words_hex  (words_hex.s0 k) (words_hex.s1 k) (words_hex.s2 k)) (words_hex.is _ _ _ ) (words_hex.envok _ _ _  ) (words_hex.segs_ok k) rfl ?_
  intro tvs blks res h
  simp only [ct_words_hex] at h
  split at h
  · refine (words_hex.ev  (words_hex.s0 k) (words_hex.s1 k) (words_hex.s2 k) _ ).trans ?_
    rw [words_hex.c_bind]
    exact h
  · simp at h
end Go.Proofs.Ytchlbajnmhffpaa.Aev
