/- By a program of this session (AEV): functions of the program as plain functions, and that the machine does what they say. -/
import Derived.Test.YtndkobhclggeiaaAevW
import Derived.Test.YtndkobhclggeiaaProg
import Derived.Laws.Externs
import Derived.Lib.Bytealg
import Derived.Test.YtndkobhclggeiaaF0
import Derived.Test.YtndkobhclggeiaaF1
import Derived.Test.YtndkobhclggeiaaFloatInt
namespace Go.Proofs.Ytndkobhclggeiaa.Aev
set_option linter.unusedVariables false
set_option linter.unusedSimpArgs false
set_option maxRecDepth 100000
set_option maxHeartbeats 4000000
open Go
/-! ### convert_Digits: function 16 -/
def ct_convert_Digits (g : Int → Option ByteArray) : Ct where
  nin := 0
  mv := []
  F := fun tvs blks {β} K => match tvs, blks with
    | [.v (.one (.d (.int .i64) a0))], [] => (g a0).bind fun r => K ⟨.v (.one (.d .str r)), []⟩
    | _, _ => none
  legit := fun tvs blks K r h => by
    split at h
    · obtain ⟨x, hx, hk⟩ := Option.bind_eq_some_iff.1 h
      refine ⟨_, ?_, hk⟩
      simp only [hx, Option.bind_some]
    · simp at h
def seg_convert_Digits_0 (g : Int → Int → Option ByteArray) : Seg where
  path := [1, 1, 1]
  prep := []
  keep := [0, 3]
  F := fun tvs blks {β} K => match tvs, blks with
    | [.v (.one (.d (.int .i64) x0)), .v (.one (.d (.int .u64) x1))], [] => (g x0 x1).bind fun r => K ⟨.v (.one (.d .str r)), []⟩
    | _, _ => none
  legit := fun tvs blks K r h => by
    split at h
    · obtain ⟨x, hx, hk⟩ := Option.bind_eq_some_iff.1 h
      refine ⟨_, ?_, hk⟩
      simp only [hx, Option.bind_some]
    · simp at h
def seg_convert_Digits_1 (g : Int → Int → Int → (List Int) → Option ByteArray) : Seg where
  path := [4, 0, 1, 1, 1, 1, 1]
  prep := []
  keep := [0, 3, 4, 5]
  F := fun tvs blks {β} K => match tvs, blks with
    | [.v (.one (.d (.int .i64) x0)), .v (.one (.d (.int .u64) x1)), .v (.one (.arr 0 20)), .v (.one (.d (.int .i64) x2))], [some (.own (.int .u8) true x3)] => (g x0 x1 x2 x3).bind fun r => K ⟨.v (.one (.d .str r)), []⟩
    | _, _ => none
  legit := fun tvs blks K r h => by
    split at h
    · obtain ⟨x, hx, hk⟩ := Option.bind_eq_some_iff.1 h
      refine ⟨_, ?_, hk⟩
      simp only [hx, Option.bind_some]
    · simp at h
def seg_convert_Digits_2 (g : Int → Int → Int → Bool → (List Int) → Option ByteArray) : Seg where
  path := [1, 0, 5, 4, 0, 1, 1, 1, 1, 1]
  prep := []
  keep := [0, 3, 4, 5, 17]
  F := fun tvs blks {β} K => match tvs, blks with
    | [.v (.one (.d (.int .i64) x0)), .v (.one (.d (.int .u64) x1)), .v (.one (.arr 0 20)), .v (.one (.d (.int .i64) x2)), .v (.one (.d .bool x3))], [some (.own (.int .u8) true x4)] => (g x0 x1 x2 x3 x4).bind fun r => K ⟨.v (.one (.d .str r)), []⟩
    | _, _ => none
  legit := fun tvs blks K r h => by
    split at h
    · obtain ⟨x, hx, hk⟩ := Option.bind_eq_some_iff.1 h
      refine ⟨_, ?_, hk⟩
      simp only [hx, Option.bind_some]
    · simp at h
def seg_convert_Digits_3 (g : Int → Int → Int → (List Int) → Option ByteArray) : Seg where
  path := [1, 5, 4, 0, 1, 1, 1, 1, 1]
  prep := []
  keep := [0, 3, 4, 5]
  F := fun tvs blks {β} K => match tvs, blks with
    | [.v (.one (.d (.int .i64) x0)), .v (.one (.d (.int .u64) x1)), .v (.one (.arr 0 20)), .v (.one (.d (.int .i64) x2))], [some (.own (.int .u8) true x3)] => (g x0 x1 x2 x3).bind fun r => K ⟨.v (.one (.d .str r)), []⟩
    | _, _ => none
  legit := fun tvs blks K r h => by
    split at h
    · obtain ⟨x, hx, hk⟩ := Option.bind_eq_some_iff.1 h
      refine ⟨_, ?_, hk⟩
      simp only [hx, Option.bind_some]
    · simp at h
noncomputable def env_convert_Digits  (s0 : Int → Int → Option ByteArray) (s1 : Int → Int → Int → (List Int) → Option ByteArray) (s2 : Int → Int → Int → Bool → (List Int) → Option ByteArray) (s3 : Int → Int → Int → (List Int) → Option ByteArray) : FEnv := { P := Go.Proofs.Try.prog, ct := fun m => none, N := 37, body := Go.Proofs.Try.f16.body.getD .skip, rvs := [.tmp 2], rts := [9], nin := 0, rmv := [], segs := [seg_convert_Digits_0 s0, seg_convert_Digits_1 s1, seg_convert_Digits_2 s2, seg_convert_Digits_3 s3] }
def convert_Digits.c {β : Type}  (s0 : Int → Int → Option ByteArray) (s1 : Int → Int → Int → (List Int) → Option ByteArray) (s2 : Int → Int → Int → Bool → (List Int) → Option ByteArray) (s3 : Int → Int → Int → (List Int) → Option ByteArray) (a0 : Int) (ret : ByteArray → Option β) : Option β := (bif (decide (a0 < (0 : Int))) then ((s0 a0 (IntKind.wrap IntKind.u64 ((0 : Int) - (IntKind.wrap IntKind.u64 a0)))).bind ret) else ((s0 a0 (IntKind.wrap IntKind.u64 a0)).bind ret))
def convert_Digits.s0c {β : Type}  (s0 : Int → Int → Option ByteArray) (s1 : Int → Int → Int → (List Int) → Option ByteArray) (s2 : Int → Int → Int → Bool → (List Int) → Option ByteArray) (s3 : Int → Int → Int → (List Int) → Option ByteArray) (x0 : Int) (x1 : Int) (ret : ByteArray → Option β) : Option β := ((s1 x0 x1 (20 : Int) [(0 : Int), (0 : Int), (0 : Int), (0 : Int), (0 : Int), (0 : Int), (0 : Int), (0 : Int), (0 : Int), (0 : Int), (0 : Int), (0 : Int), (0 : Int), (0 : Int), (0 : Int), (0 : Int), (0 : Int), (0 : Int), (0 : Int), (0 : Int)]).bind ret)
def convert_Digits.s1c {β : Type}  (s0 : Int → Int → Option ByteArray) (s1 : Int → Int → Int → (List Int) → Option ByteArray) (s2 : Int → Int → Int → Bool → (List Int) → Option ByteArray) (s3 : Int → Int → Int → (List Int) → Option ByteArray) (x0 : Int) (x1 : Int) (x2 : Int) (x3 : List Int) (ret : ByteArray → Option β) : Option β := (bif (x2 == (20 : Int)) then ((s2 x0 x1 x2 true x3).bind ret) else ((s2 x0 x1 x2 (decide (x1 > (0 : Int))) x3).bind ret))
def convert_Digits.s2c {β : Type}  (s0 : Int → Int → Option ByteArray) (s1 : Int → Int → Int → (List Int) → Option ByteArray) (s2 : Int → Int → Int → Bool → (List Int) → Option ByteArray) (s3 : Int → Int → Int → (List Int) → Option ByteArray) (x0 : Int) (x1 : Int) (x2 : Int) (x3 : Bool) (x4 : List Int) (ret : ByteArray → Option β) : Option β := (bif x3 then ((s3 x0 x1 x2 x4).bind ret) else (bif (decide (x0 < (0 : Int))) then (bif ((decide ((0 : Int) ≤ (IntKind.wrap IntKind.i64 (x2 - (1 : Int))))) && (decide ((IntKind.wrap IntKind.i64 (x2 - (1 : Int))) < (20 : Int)))) then (bif (((decide ((0 : Int) ≤ (IntKind.wrap IntKind.i64 (x2 - (1 : Int))))) && (decide ((IntKind.wrap IntKind.i64 (x2 - (1 : Int))) ≤ (20 : Int)))) && true) then (ret ((ByteArray.mk (List.toArray (List.map (fun n => (UInt8.ofNat (Int.toNat n))) (List.take ((20 : Nat) - (Int.toNat (IntKind.wrap IntKind.i64 (x2 - (1 : Int))))) (List.drop (Int.toNat (IntKind.wrap IntKind.i64 (x2 - (1 : Int)))) (List.set x4 (Int.toNat (IntKind.wrap IntKind.i64 (x2 - (1 : Int)))) (45 : Int))))))))) else none) else none) else (bif (((decide ((0 : Int) ≤ x2)) && (decide (x2 ≤ (20 : Int)))) && true) then (ret ((ByteArray.mk (List.toArray (List.map (fun n => (UInt8.ofNat (Int.toNat n))) (List.take ((20 : Nat) - (Int.toNat x2)) (List.drop (Int.toNat x2) x4))))))) else none)))
def convert_Digits.s3c {β : Type}  (s0 : Int → Int → Option ByteArray) (s1 : Int → Int → Int → (List Int) → Option ByteArray) (s2 : Int → Int → Int → Bool → (List Int) → Option ByteArray) (s3 : Int → Int → Int → (List Int) → Option ByteArray) (x0 : Int) (x1 : Int) (x2 : Int) (x3 : List Int) (ret : ByteArray → Option β) : Option β := (bif ((decide ((0 : Int) ≤ (IntKind.wrap IntKind.i64 (x2 - (1 : Int))))) && (decide ((IntKind.wrap IntKind.i64 (x2 - (1 : Int))) < (20 : Int)))) then ((s1 x0 (IntKind.wrap IntKind.u64 (Int.tdiv x1 (10 : Int))) (IntKind.wrap IntKind.i64 (x2 - (1 : Int))) (List.set x3 (Int.toNat (IntKind.wrap IntKind.i64 (x2 - (1 : Int)))) (IntKind.wrap IntKind.u8 (IntKind.wrap IntKind.u64 ((48 : Int) + (Int.tmod x1 (10 : Int))))))).bind ret) else none)
theorem convert_Digits.c_bind {β : Type}  (s0 : Int → Int → Option ByteArray) (s1 : Int → Int → Int → (List Int) → Option ByteArray) (s2 : Int → Int → Int → Bool → (List Int) → Option ByteArray) (s3 : Int → Int → Int → (List Int) → Option ByteArray) (a0 : Int) (ret : ByteArray → Option β) : convert_Digits.c  s0 s1 s2 s3 a0 ret = (convert_Digits.c  s0 s1 s2 s3 a0 some).bind ret := by
  simp only [convert_Digits.c, bif_bind, sum_bind, Option.bind_assoc, Option.bind_some, Option.bind_none, Option.bind_fun_some]
theorem convert_Digits.s0c_bind {β : Type}  (s0 : Int → Int → Option ByteArray) (s1 : Int → Int → Int → (List Int) → Option ByteArray) (s2 : Int → Int → Int → Bool → (List Int) → Option ByteArray) (s3 : Int → Int → Int → (List Int) → Option ByteArray) (x0 : Int) (x1 : Int) (ret : ByteArray → Option β) : convert_Digits.s0c  s0 s1 s2 s3 x0 x1 ret = (convert_Digits.s0c  s0 s1 s2 s3 x0 x1 some).bind ret := by
  simp only [convert_Digits.s0c, bif_bind, sum_bind, Option.bind_assoc, Option.bind_some, Option.bind_none, Option.bind_fun_some]
theorem convert_Digits.s1c_bind {β : Type}  (s0 : Int → Int → Option ByteArray) (s1 : Int → Int → Int → (List Int) → Option ByteArray) (s2 : Int → Int → Int → Bool → (List Int) → Option ByteArray) (s3 : Int → Int → Int → (List Int) → Option ByteArray) (x0 : Int) (x1 : Int) (x2 : Int) (x3 : List Int) (ret : ByteArray → Option β) : convert_Digits.s1c  s0 s1 s2 s3 x0 x1 x2 x3 ret = (convert_Digits.s1c  s0 s1 s2 s3 x0 x1 x2 x3 some).bind ret := by
  simp only [convert_Digits.s1c, bif_bind, sum_bind, Option.bind_assoc, Option.bind_some, Option.bind_none, Option.bind_fun_some]
theorem convert_Digits.s2c_bind {β : Type}  (s0 : Int → Int → Option ByteArray) (s1 : Int → Int → Int → (List Int) → Option ByteArray) (s2 : Int → Int → Int → Bool → (List Int) → Option ByteArray) (s3 : Int → Int → Int → (List Int) → Option ByteArray) (x0 : Int) (x1 : Int) (x2 : Int) (x3 : Bool) (x4 : List Int) (ret : ByteArray → Option β) : convert_Digits.s2c  s0 s1 s2 s3 x0 x1 x2 x3 x4 ret = (convert_Digits.s2c  s0 s1 s2 s3 x0 x1 x2 x3 x4 some).bind ret := by
  simp only [convert_Digits.s2c, bif_bind, sum_bind, Option.bind_assoc, Option.bind_some, Option.bind_none, Option.bind_fun_some]
theorem convert_Digits.s3c_bind {β : Type}  (s0 : Int → Int → Option ByteArray) (s1 : Int → Int → Int → (List Int) → Option ByteArray) (s2 : Int → Int → Int → Bool → (List Int) → Option ByteArray) (s3 : Int → Int → Int → (List Int) → Option ByteArray) (x0 : Int) (x1 : Int) (x2 : Int) (x3 : List Int) (ret : ByteArray → Option β) : convert_Digits.s3c  s0 s1 s2 s3 x0 x1 x2 x3 ret = (convert_Digits.s3c  s0 s1 s2 s3 x0 x1 x2 x3 some).bind ret := by
  simp only [convert_Digits.s3c, bif_bind, sum_bind, Option.bind_assoc, Option.bind_some, Option.bind_none, Option.bind_fun_some]
theorem convert_Digits.ev  (s0 : Int → Int → Option ByteArray) (s1 : Int → Int → Int → (List Int) → Option ByteArray) (s2 : Int → Int → Int → Bool → (List Int) → Option ByteArray) (s3 : Int → Int → Int → (List Int) → Option ByteArray) (a0 : Int) : evAt (env_convert_Digits  s0 s1 s2 s3) [] [0] [.v (.one (.d (.int .i64) a0))] [] some = convert_Digits.c  s0 s1 s2 s3 a0 (fun r => some ⟨.v (.one (.d .str r)), []⟩) := by
  kernel_rfl
theorem convert_Digits.s0_ev  (s0 : Int → Int → Option ByteArray) (s1 : Int → Int → Int → (List Int) → Option ByteArray) (s2 : Int → Int → Int → Bool → (List Int) → Option ByteArray) (s3 : Int → Int → Int → (List Int) → Option ByteArray) (x0 : Int) (x1 : Int) : evAt (env_convert_Digits  s0 s1 s2 s3) [1, 1, 1] [0, 3] [.v (.one (.d (.int .i64) x0)), .v (.one (.d (.int .u64) x1))] [] some = convert_Digits.s0c  s0 s1 s2 s3 x0 x1 (fun r => some ⟨.v (.one (.d .str r)), []⟩) := by
  kernel_rfl
theorem convert_Digits.s1_ev  (s0 : Int → Int → Option ByteArray) (s1 : Int → Int → Int → (List Int) → Option ByteArray) (s2 : Int → Int → Int → Bool → (List Int) → Option ByteArray) (s3 : Int → Int → Int → (List Int) → Option ByteArray) (x0 : Int) (x1 : Int) (x2 : Int) (x3 : List Int) : evAt (env_convert_Digits  s0 s1 s2 s3) [4, 0, 1, 1, 1, 1, 1] [0, 3, 4, 5] [.v (.one (.d (.int .i64) x0)), .v (.one (.d (.int .u64) x1)), .v (.one (.arr 0 20)), .v (.one (.d (.int .i64) x2))] [some (.own (.int .u8) true x3)] some = convert_Digits.s1c  s0 s1 s2 s3 x0 x1 x2 x3 (fun r => some ⟨.v (.one (.d .str r)), []⟩) := by
  kernel_rfl
theorem convert_Digits.s2_ev  (s0 : Int → Int → Option ByteArray) (s1 : Int → Int → Int → (List Int) → Option ByteArray) (s2 : Int → Int → Int → Bool → (List Int) → Option ByteArray) (s3 : Int → Int → Int → (List Int) → Option ByteArray) (x0 : Int) (x1 : Int) (x2 : Int) (x3 : Bool) (x4 : List Int) : evAt (env_convert_Digits  s0 s1 s2 s3) [1, 0, 5, 4, 0, 1, 1, 1, 1, 1] [0, 3, 4, 5, 17] [.v (.one (.d (.int .i64) x0)), .v (.one (.d (.int .u64) x1)), .v (.one (.arr 0 20)), .v (.one (.d (.int .i64) x2)), .v (.one (.d .bool x3))] [some (.own (.int .u8) true x4)] some = convert_Digits.s2c  s0 s1 s2 s3 x0 x1 x2 x3 x4 (fun r => some ⟨.v (.one (.d .str r)), []⟩) := by
  kernel_rfl
theorem convert_Digits.s3_ev  (s0 : Int → Int → Option ByteArray) (s1 : Int → Int → Int → (List Int) → Option ByteArray) (s2 : Int → Int → Int → Bool → (List Int) → Option ByteArray) (s3 : Int → Int → Int → (List Int) → Option ByteArray) (x0 : Int) (x1 : Int) (x2 : Int) (x3 : List Int) : evAt (env_convert_Digits  s0 s1 s2 s3) [1, 5, 4, 0, 1, 1, 1, 1, 1] [0, 3, 4, 5] [.v (.one (.d (.int .i64) x0)), .v (.one (.d (.int .u64) x1)), .v (.one (.arr 0 20)), .v (.one (.d (.int .i64) x2))] [some (.own (.int .u8) true x3)] some = convert_Digits.s3c  s0 s1 s2 s3 x0 x1 x2 x3 (fun r => some ⟨.v (.one (.d .str r)), []⟩) := by
  kernel_rfl
mutual
def convert_Digits.s0 : Nat → Int → Int → Option ByteArray
  | 0, _, _ => none
  | k + 1, x0, x1 => convert_Digits.s0c  (convert_Digits.s0 k) (convert_Digits.s1 k) (convert_Digits.s2 k) (convert_Digits.s3 k) x0 x1 some
def convert_Digits.s1 : Nat → Int → Int → Int → (List Int) → Option ByteArray
  | 0, _, _, _, _ => none
  | k + 1, x0, x1, x2, x3 => convert_Digits.s1c  (convert_Digits.s0 k) (convert_Digits.s1 k) (convert_Digits.s2 k) (convert_Digits.s3 k) x0 x1 x2 x3 some
def convert_Digits.s2 : Nat → Int → Int → Int → Bool → (List Int) → Option ByteArray
  | 0, _, _, _, _, _ => none
  | k + 1, x0, x1, x2, x3, x4 => convert_Digits.s2c  (convert_Digits.s0 k) (convert_Digits.s1 k) (convert_Digits.s2 k) (convert_Digits.s3 k) x0 x1 x2 x3 x4 some
def convert_Digits.s3 : Nat → Int → Int → Int → (List Int) → Option ByteArray
  | 0, _, _, _, _ => none
  | k + 1, x0, x1, x2, x3 => convert_Digits.s3c  (convert_Digits.s0 k) (convert_Digits.s1 k) (convert_Digits.s2 k) (convert_Digits.s3 k) x0 x1 x2 x3 some
end
def convert_Digits.f (k : Nat) (a0 : Int) : Option ByteArray := convert_Digits.c  (convert_Digits.s0 k) (convert_Digits.s1 k) (convert_Digits.s2 k) (convert_Digits.s3 k) a0 some
theorem convert_Digits.is  (s0 : Int → Int → Option ByteArray) (s1 : Int → Int → Int → (List Int) → Option ByteArray) (s2 : Int → Int → Int → Bool → (List Int) → Option ByteArray) (s3 : Int → Int → Int → (List Int) → Option ByteArray) : FnIs (env_convert_Digits  s0 s1 s2 s3) 16 Go.Proofs.Try.f16 := ⟨Go.Proofs.Try.func16, rfl, rfl, rfl, by decide⟩
theorem convert_Digits.envok  (s0 : Int → Int → Option ByteArray) (s1 : Int → Int → Int → (List Int) → Option ByteArray) (s2 : Int → Int → Int → Bool → (List Int) → Option ByteArray) (s3 : Int → Int → Int → (List Int) → Option ByteArray)  : EnvOK (env_convert_Digits  s0 s1 s2 s3).toEnv := by
  intro f c h
  simp only [env_convert_Digits] at h
  simp at h
theorem convert_Digits.segs_ok : ∀ k, ∀ s ∈ (env_convert_Digits  (convert_Digits.s0 k) (convert_Digits.s1 k) (convert_Digits.s2 k) (convert_Digits.s3 k)).segs, SegOK (env_convert_Digits  (convert_Digits.s0 k) (convert_Digits.s1 k) (convert_Digits.s2 k) (convert_Digits.s3 k)) Go.Proofs.Try.f16 s
  | 0 => by
    intro s hs
    simp only [env_convert_Digits, List.mem_cons, List.not_mem_nil, or_false] at hs
    rcases hs with rfl | rfl | rfl | rfl
    · intro tvs blks res h; exfalso; simp only [seg_convert_Digits_0] at h; split at h <;> simp [convert_Digits.s0] at h
    · intro tvs blks res h; exfalso; simp only [seg_convert_Digits_1] at h; split at h <;> simp [convert_Digits.s1] at h
    · intro tvs blks res h; exfalso; simp only [seg_convert_Digits_2] at h; split at h <;> simp [convert_Digits.s2] at h
    · intro tvs blks res h; exfalso; simp only [seg_convert_Digits_3] at h; split at h <;> simp [convert_Digits.s3] at h
  | k + 1 => by
    have ih := convert_Digits.segs_ok k
    intro s hs
    simp only [env_convert_Digits, List.mem_cons, List.not_mem_nil, or_false] at hs
    rcases hs with rfl | rfl | rfl | rfl
    · refine seg_of_ev (E := env_convert_Digits  (convert_Digits.s0 k) (convert_Digits.s1 k) (convert_Digits.s2 k) (convert_Digits.s3 k)) (convert_Digits.envok _ _ _ _  ) ⟨(convert_Digits.is  (convert_Digits.s0 k) (convert_Digits.s1 k) (convert_Digits.s2 k) (convert_Digits.s3 k)).rvs⟩ ih ?_
      intro tvs blks res h
      simp only [seg_convert_Digits_0] at h
      split at h
      · refine (convert_Digits.s0_ev  (convert_Digits.s0 k) (convert_Digits.s1 k) (convert_Digits.s2 k) (convert_Digits.s3 k) _ _ ).trans ?_
        rw [convert_Digits.s0c_bind]
        exact h
      · simp at h
    · refine seg_of_ev (E := env_convert_Digits  (convert_Digits.s0 k) (convert_Digits.s1 k) (convert_Digits.s2 k) (convert_Digits.s3 k)) (convert_Digits.envok _ _ _ _  ) ⟨(convert_Digits.is  (convert_Digits.s0 k) (convert_Digits.s1 k) (convert_Digits.s2 k) (convert_Digits.s3 k)).rvs⟩ ih ?_
      intro tvs blks res h
      simp only [seg_convert_Digits_1] at h
      split at h
      · refine (convert_Digits.s1_ev  (convert_Digits.s0 k) (convert_Digits.s1 k) (convert_Digits.s2 k) (convert_Digits.s3 k) _ _ _ _ ).trans ?_
        rw [convert_Digits.s1c_bind]
        exact h
      · simp at h
    · refine seg_of_ev (E := env_convert_Digits  (convert_Digits.s0 k) (convert_Digits.s1 k) (convert_Digits.s2 k) (convert_Digits.s3 k)) (convert_Digits.envok _ _ _ _  ) ⟨(convert_Digits.is  (convert_Digits.s0 k) (convert_Digits.s1 k) (convert_Digits.s2 k) (convert_Digits.s3 k)).rvs⟩ ih ?_
      intro tvs blks res h
      simp only [seg_convert_Digits_2] at h
      split at h
      · refine (convert_Digits.s2_ev  (convert_Digits.s0 k) (convert_Digits.s1 k) (convert_Digits.s2 k) (convert_Digits.s3 k) _ _ _ _ _ ).trans ?_
        rw [convert_Digits.s2c_bind]
        exact h
      · simp at h
    · refine seg_of_ev (E := env_convert_Digits  (convert_Digits.s0 k) (convert_Digits.s1 k) (convert_Digits.s2 k) (convert_Digits.s3 k)) (convert_Digits.envok _ _ _ _  ) ⟨(convert_Digits.is  (convert_Digits.s0 k) (convert_Digits.s1 k) (convert_Digits.s2 k) (convert_Digits.s3 k)).rvs⟩ ih ?_
      intro tvs blks res h
      simp only [seg_convert_Digits_3] at h
      split at h
      · refine (convert_Digits.s3_ev  (convert_Digits.s0 k) (convert_Digits.s1 k) (convert_Digits.s2 k) (convert_Digits.s3 k) _ _ _ _ ).trans ?_
        rw [convert_Digits.s3c_bind]
        exact h
      · simp at h
theorem convert_Digits.ok (k : Nat) : CtOK Go.Proofs.Try.prog 16 (ct_convert_Digits (convert_Digits.f k)) := by
  refine ct_of_ev (E := env_convert_Digits  (convert_Digits.s0 k) (convert_Digits.s1 k) (convert_Digits.s2 k) (convert_Digits.s3 k)) (convert_Digits.is _ _ _ _ ) (convert_Digits.envok _ _ _ _  ) (convert_Digits.segs_ok k) rfl ?_
  intro tvs blks res h
  simp only [ct_convert_Digits] at h
  split at h
  · refine (convert_Digits.ev  (convert_Digits.s0 k) (convert_Digits.s1 k) (convert_Digits.s2 k) (convert_Digits.s3 k) _ ).trans ?_
    rw [convert_Digits.c_bind]
    exact h
  · simp at h

/-! ### math_Float64bits: function 54 (no body) -/
def ct_math_Float64bits (g : Nat → Option Int) : Ct where
  nin := 0
  mv := []
  F := fun tvs blks {β} K => match tvs, blks with
    | [.v (.one (.d .flt a0))], [] => (g a0).bind fun r => K ⟨.v (.one (.d (.int .u64) r)), []⟩
    | _, _ => none
  legit := fun tvs blks K r h => by
    split at h
    · obtain ⟨x, hx, hk⟩ := Option.bind_eq_some_iff.1 h
      refine ⟨_, ?_, hk⟩
      simp only [hx, Option.bind_some]
    · simp at h
def math_Float64bits.f (k : Nat) (a0 : Nat) : Option Int := some (a0)
theorem math_Float64bits.ok (k : Nat) : CtOK Go.Proofs.Try.prog 54 (ct_math_Float64bits (math_Float64bits.f k)) := by
  refine ct_extern ?_
  intro tvs blks res h
  simp only [ct_math_Float64bits] at h
  split at h
  · simp only [math_Float64bits.f, Option.bind_some, Option.some.injEq] at h; subst h
    rename_i a0
    refine ⟨.int .u64 a0, ?_, rfl, rfl⟩
    intro w S ρ H vals hm hv
    obtain ⟨v0, m0, rfl, h0, hv⟩ := All2.cons_left hv
    cases All2.nil_left hv
    simp only [RepTV, RepVV, RepAV, Rd, List.cons.injEq, and_true] at h0
    subst h0
    exact ⟨run_callFunc_extern (e := Extern.MathFloatBits.float64bits) Go.Proofs.Try.func54 (by kernel_rfl) (by kernel_rfl) (by kernel_rfl) (by kernel_rfl) _ w, rfl⟩
  · simp at h

/-! ### reals_FromInt: function 40 -/
def ct_reals_FromInt (g : Int → Option (Int × Bool)) : Ct where
  nin := 0
  mv := []
  F := fun tvs blks {β} K => match tvs, blks with
    | [.v (.one (.d (.int .i64) a0))], [] => (g a0).bind fun r => K ⟨.tup [(.one (.d (.int .u64) r.1)), (.one (.d .bool r.2))], []⟩
    | _, _ => none
  legit := fun tvs blks K r h => by
    split at h
    · obtain ⟨x, hx, hk⟩ := Option.bind_eq_some_iff.1 h
      refine ⟨_, ?_, hk⟩
      simp only [hx, Option.bind_some]
    · simp at h
noncomputable def env_reals_FromInt (g54 : Nat → Option Int)  : FEnv := { P := Go.Proofs.Try.prog, ct := fun m => if m = 54 then some (ct_math_Float64bits g54) else none, N := 17, body := Go.Proofs.Try.f40.body.getD .skip, rvs := [.tmp 2, .tmp 3], rts := [22, 4], nin := 0, rmv := [], segs := [] }
def reals_FromInt.c {β : Type} (g54 : Nat → Option Int)  (a0 : Int) (ret : (Int × Bool) → Option β) : Option β := (bif (((Ieee.Format.order (FloatKind.format FloatKind.f64) (FloatKind.nearest FloatKind.f64 a0) (4890909195324358656 : Nat)) == (Option.some Ordering.gt)) || ((Ieee.Format.order (FloatKind.format FloatKind.f64) (FloatKind.nearest FloatKind.f64 a0) (4890909195324358656 : Nat)) == (Option.some Ordering.eq))) then (ret ((0 : Int), false)) else (bif (((Option.isSome (Ieee.Datum.toInt Ieee.Toward.zero (FloatKind.decode FloatKind.f64 (FloatKind.nearest FloatKind.f64 a0)))) && (decide ((-9223372036854775808 : Int) ≤ (Option.getD (Ieee.Datum.toInt Ieee.Toward.zero (FloatKind.decode FloatKind.f64 (FloatKind.nearest FloatKind.f64 a0))) (0 : Int))))) && (decide ((Option.getD (Ieee.Datum.toInt Ieee.Toward.zero (FloatKind.decode FloatKind.f64 (FloatKind.nearest FloatKind.f64 a0))) (0 : Int)) ≤ (9223372036854775807 : Int)))) then (bif ((Option.getD (Ieee.Datum.toInt Ieee.Toward.zero (FloatKind.decode FloatKind.f64 (FloatKind.nearest FloatKind.f64 a0))) (0 : Int)) != a0) then (ret ((0 : Int), false)) else ((g54 (FloatKind.nearest FloatKind.f64 a0)).bind fun r0 => (ret (r0, true)))) else none))
theorem reals_FromInt.c_bind {β : Type} (g54 : Nat → Option Int)  (a0 : Int) (ret : (Int × Bool) → Option β) : reals_FromInt.c g54  a0 ret = (reals_FromInt.c g54  a0 some).bind ret := by
  simp only [reals_FromInt.c, bif_bind, sum_bind, Option.bind_assoc, Option.bind_some, Option.bind_none, Option.bind_fun_some]
theorem reals_FromInt.ev (g54 : Nat → Option Int)  (a0 : Int) : evAt (env_reals_FromInt g54 ) [] [0] [.v (.one (.d (.int .i64) a0))] [] some = reals_FromInt.c g54  a0 (fun r => some ⟨.tup [(.one (.d (.int .u64) r.1)), (.one (.d .bool r.2))], []⟩) := by
  kernel_rfl
def reals_FromInt.f (k : Nat) (a0 : Int) : Option (Int × Bool) := reals_FromInt.c (math_Float64bits.f k)  a0 some
theorem reals_FromInt.is (g54 : Nat → Option Int)  : FnIs (env_reals_FromInt g54 ) 40 Go.Proofs.Try.f40 := ⟨Go.Proofs.Try.func40, rfl, rfl, rfl, by decide⟩
theorem reals_FromInt.envok (g54 : Nat → Option Int)  (h54 : CtOK Go.Proofs.Try.prog 54 (ct_math_Float64bits g54)) : EnvOK (env_reals_FromInt g54 ).toEnv := by
  intro f c h
  simp only [env_reals_FromInt] at h
  split at h
  · rename_i e; subst e; cases h; exact h54
  simp at h
theorem reals_FromInt.ok (k : Nat) : CtOK Go.Proofs.Try.prog 40 (ct_reals_FromInt (reals_FromInt.f k)) := by
  refine ct_of_ev (E := env_reals_FromInt (math_Float64bits.f k) ) (reals_FromInt.is _ ) (reals_FromInt.envok _  (math_Float64bits.ok k)) (fun s hs => by simp [env_reals_FromInt] at hs) rfl ?_
  intro tvs blks res h
  simp only [ct_reals_FromInt] at h
  split at h
  · refine (reals_FromInt.ev (math_Float64bits.f k)  _ ).trans ?_
    rw [reals_FromInt.c_bind]
    exact h
  · simp at h

/-! ### convert_eight: function 41 -/
def ct_convert_eight (g : Int → Option ByteArray) : Ct where
  nin := 0
  mv := []
  F := fun tvs blks {β} K => match tvs, blks with
    | [.v (.one (.d (.int .u64) a0))], [] => (g a0).bind fun r => K ⟨.v (.one (.d .str r)), []⟩
    | _, _ => none
  legit := fun tvs blks K r h => by
    split at h
    · obtain ⟨x, hx, hk⟩ := Option.bind_eq_some_iff.1 h
      refine ⟨_, ?_, hk⟩
      simp only [hx, Option.bind_some]
    · simp at h
def seg_convert_eight_0 (g : Int → Int → (List Int) → Option ByteArray) : Seg where
  path := [4, 1, 0, 1, 1]
  prep := []
  keep := [0, 3, 5]
  F := fun tvs blks {β} K => match tvs, blks with
    | [.v (.one (.d (.int .u64) x0)), .v (.one (.arr 0 8)), .v (.one (.d (.int .i64) x1))], [some (.own (.int .u8) true x2)] => (g x0 x1 x2).bind fun r => K ⟨.v (.one (.d .str r)), []⟩
    | _, _ => none
  legit := fun tvs blks K r h => by
    split at h
    · obtain ⟨x, hx, hk⟩ := Option.bind_eq_some_iff.1 h
      refine ⟨_, ?_, hk⟩
      simp only [hx, Option.bind_some]
    · simp at h
noncomputable def env_convert_eight  (s0 : Int → Int → (List Int) → Option ByteArray) : FEnv := { P := Go.Proofs.Try.prog, ct := fun m => none, N := 19, body := Go.Proofs.Try.f41.body.getD .skip, rvs := [.tmp 2], rts := [9], nin := 0, rmv := [], segs := [seg_convert_eight_0 s0] }
def convert_eight.c {β : Type}  (s0 : Int → Int → (List Int) → Option ByteArray) (a0 : Int) (ret : ByteArray → Option β) : Option β := ((s0 a0 (0 : Int) [(0 : Int), (0 : Int), (0 : Int), (0 : Int), (0 : Int), (0 : Int), (0 : Int), (0 : Int)]).bind ret)
def convert_eight.s0c {β : Type}  (s0 : Int → Int → (List Int) → Option ByteArray) (x0 : Int) (x1 : Int) (x2 : List Int) (ret : ByteArray → Option β) : Option β := (bif (decide (x1 < (8 : Int))) then (bif (decide ((0 : Int) ≤ (IntKind.wrap IntKind.i64 ((56 : Int) - (IntKind.wrap IntKind.i64 ((8 : Int) * x1)))))) then (bif ((decide ((0 : Int) ≤ x1)) && (decide (x1 < (8 : Int)))) then ((s0 x0 (IntKind.wrap IntKind.i64 (x1 + (1 : Int))) (List.set x2 (Int.toNat x1) (IntKind.wrap IntKind.u8 (Int.fdiv x0 ((2 : Int) ^ (Min.min (Int.toNat (IntKind.wrap IntKind.i64 ((56 : Int) - (IntKind.wrap IntKind.i64 ((8 : Int) * x1))))) (64 : Nat))))))).bind ret) else none) else none) else (ret ((ByteArray.mk (List.toArray (List.map (fun n => (UInt8.ofNat (Int.toNat n))) (List.take (8 : Nat) (List.drop (0 : Nat) x2))))))))
theorem convert_eight.c_bind {β : Type}  (s0 : Int → Int → (List Int) → Option ByteArray) (a0 : Int) (ret : ByteArray → Option β) : convert_eight.c  s0 a0 ret = (convert_eight.c  s0 a0 some).bind ret := by
  simp only [convert_eight.c, bif_bind, sum_bind, Option.bind_assoc, Option.bind_some, Option.bind_none, Option.bind_fun_some]
theorem convert_eight.s0c_bind {β : Type}  (s0 : Int → Int → (List Int) → Option ByteArray) (x0 : Int) (x1 : Int) (x2 : List Int) (ret : ByteArray → Option β) : convert_eight.s0c  s0 x0 x1 x2 ret = (convert_eight.s0c  s0 x0 x1 x2 some).bind ret := by
  simp only [convert_eight.s0c, bif_bind, sum_bind, Option.bind_assoc, Option.bind_some, Option.bind_none, Option.bind_fun_some]
theorem convert_eight.ev  (s0 : Int → Int → (List Int) → Option ByteArray) (a0 : Int) : evAt (env_convert_eight  s0) [] [0] [.v (.one (.d (.int .u64) a0))] [] some = convert_eight.c  s0 a0 (fun r => some ⟨.v (.one (.d .str r)), []⟩) := by
  kernel_rfl
theorem convert_eight.s0_ev  (s0 : Int → Int → (List Int) → Option ByteArray) (x0 : Int) (x1 : Int) (x2 : List Int) : evAt (env_convert_eight  s0) [4, 1, 0, 1, 1] [0, 3, 5] [.v (.one (.d (.int .u64) x0)), .v (.one (.arr 0 8)), .v (.one (.d (.int .i64) x1))] [some (.own (.int .u8) true x2)] some = convert_eight.s0c  s0 x0 x1 x2 (fun r => some ⟨.v (.one (.d .str r)), []⟩) := by
  kernel_rfl
def convert_eight.s0 : Nat → Int → Int → (List Int) → Option ByteArray
  | 0, _, _, _ => none
  | k + 1, x0, x1, x2 => convert_eight.s0c  (convert_eight.s0 k) x0 x1 x2 some
def convert_eight.f (k : Nat) (a0 : Int) : Option ByteArray := convert_eight.c  (convert_eight.s0 k) a0 some
theorem convert_eight.is  (s0 : Int → Int → (List Int) → Option ByteArray) : FnIs (env_convert_eight  s0) 41 Go.Proofs.Try.f41 := ⟨Go.Proofs.Try.func41, rfl, rfl, rfl, by decide⟩
theorem convert_eight.envok  (s0 : Int → Int → (List Int) → Option ByteArray)  : EnvOK (env_convert_eight  s0).toEnv := by
  intro f c h
  simp only [env_convert_eight] at h
  simp at h
theorem convert_eight.segs_ok : ∀ k, ∀ s ∈ (env_convert_eight  (convert_eight.s0 k)).segs, SegOK (env_convert_eight  (convert_eight.s0 k)) Go.Proofs.Try.f41 s
  | 0 => by
    intro s hs
    simp only [env_convert_eight, List.mem_cons, List.not_mem_nil, or_false] at hs
    rcases hs with rfl
    · intro tvs blks res h; exfalso; simp only [seg_convert_eight_0] at h; split at h <;> simp [convert_eight.s0] at h
  | k + 1 => by
    have ih := convert_eight.segs_ok k
    intro s hs
    simp only [env_convert_eight, List.mem_cons, List.not_mem_nil, or_false] at hs
    rcases hs with rfl
    · refine seg_of_ev (E := env_convert_eight  (convert_eight.s0 k)) (convert_eight.envok _  ) ⟨(convert_eight.is  (convert_eight.s0 k)).rvs⟩ ih ?_
      intro tvs blks res h
      simp only [seg_convert_eight_0] at h
      split at h
      · refine (convert_eight.s0_ev  (convert_eight.s0 k) _ _ _ ).trans ?_
        rw [convert_eight.s0c_bind]
        exact h
      · simp at h
theorem convert_eight.ok (k : Nat) : CtOK Go.Proofs.Try.prog 41 (ct_convert_eight (convert_eight.f k)) := by
  refine ct_of_ev (E := env_convert_eight  (convert_eight.s0 k)) (convert_eight.is _ ) (convert_eight.envok _  ) (convert_eight.segs_ok k) rfl ?_
  intro tvs blks res h
  simp only [ct_convert_eight] at h
  split at h
  · refine (convert_eight.ev  (convert_eight.s0 k) _ ).trans ?_
    rw [convert_eight.c_bind]
    exact h
  · simp at h

/-! ### convert_ofInt: function 24 -/
def ct_convert_ofInt (g : Int → Int → Option (Int ⊕ (Int × Int × Int × ByteArray))) : Ct where
  nin := 0
  mv := []
  F := fun tvs blks {β} K => match tvs, blks with
    | [.v (.one (.d (.int .i64) a0)), .v (.one (.d (.int .i64) a1))], [] => (g a0 a1).bind fun r => Sum.elim (fun r => K ⟨.v (.one (.fn 38 [(0, 0)])), [some (.box [(.d (.int .i64) r)])]⟩) (fun r => K ⟨.v (.one (.fn 39 [(0, 0)])), [some (.box [(.d (.int .i64) r.1), (.d (.int .i64) r.2.1), (.d (.int .u64) r.2.2.1), (.d .str r.2.2.2)])]⟩) r
    | _, _ => none
  legit := fun tvs blks K r h => by
    split at h
    · obtain ⟨x, hx, hk⟩ := Option.bind_eq_some_iff.1 h
      rcases x with x | x <;> (simp only [Sum.elim_inl, Sum.elim_inr] at hk; exact ⟨_, by simp only [hx, Option.bind_some, Sum.elim_inl, Sum.elim_inr], hk⟩)
    · simp at h
noncomputable def env_convert_ofInt (g16 : Int → Option ByteArray) (g21 : Int → Option Int) (g22 : Int → Int → Int → ByteArray → Option (Int × Int × Int × ByteArray)) (g40 : Int → Option (Int × Bool)) (g41 : Int → Option ByteArray)  : FEnv := { P := Go.Proofs.Try.prog, ct := fun m => if m = 16 then some (ct_convert_Digits g16) else if m = 21 then some (ct_convert_refuse g21) else if m = 22 then some (ct_convert_give g22) else if m = 40 then some (ct_reals_FromInt g40) else if m = 41 then some (ct_convert_eight g41) else none, N := 50, body := Go.Proofs.Try.f24.body.getD .skip, rvs := [.tmp 4], rts := [45], nin := 0, rmv := [], segs := [] }
def convert_ofInt.c {β : Type} (g16 : Int → Option ByteArray) (g21 : Int → Option Int) (g22 : Int → Int → Int → ByteArray → Option (Int × Int × Int × ByteArray)) (g40 : Int → Option (Int × Bool)) (g41 : Int → Option ByteArray)  (a0 : Int) (a1 : Int) (ret : (Int ⊕ (Int × Int × Int × ByteArray)) → Option β) : Option β := (bif (a1 == (1 : Int)) then (bif (a0 != (0 : Int)) then (bif (a0 != (1 : Int)) then ((g21 (6 : Int)).bind fun r0 => (ret (.inl (r0)))) else ((g22 a1 a0 (0 : Int) (ByteArray.mk (List.toArray []))).bind fun r1 => (ret (.inr (r1.1, r1.2.1, r1.2.2.1, r1.2.2.2))))) else ((g22 a1 a0 (0 : Int) (ByteArray.mk (List.toArray []))).bind fun r2 => (ret (.inr (r2.1, r2.2.1, r2.2.2.1, r2.2.2.2))))) else (bif (a1 == (3 : Int)) then ((g40 a0).bind fun r3 => (bif (!r3.2) then ((g21 (6 : Int)).bind fun r4 => (ret (.inl (r4)))) else ((g22 a1 (0 : Int) r3.1 (ByteArray.mk (List.toArray []))).bind fun r5 => (ret (.inr (r5.1, r5.2.1, r5.2.2.1, r5.2.2.2)))))) else (bif (a1 == (4 : Int)) then ((g41 (IntKind.wrap IntKind.u64 a0)).bind fun r6 => ((g22 a1 (0 : Int) (0 : Int) r6).bind fun r7 => (ret (.inr (r7.1, r7.2.1, r7.2.2.1, r7.2.2.2))))) else (bif (a1 == (5 : Int)) then ((g16 a0).bind fun r8 => ((g22 a1 (0 : Int) (0 : Int) r8).bind fun r9 => (ret (.inr (r9.1, r9.2.1, r9.2.2.1, r9.2.2.2))))) else ((g22 a1 a0 (0 : Int) (ByteArray.mk (List.toArray []))).bind fun r10 => (ret (.inr (r10.1, r10.2.1, r10.2.2.1, r10.2.2.2))))))))
theorem convert_ofInt.c_bind {β : Type} (g16 : Int → Option ByteArray) (g21 : Int → Option Int) (g22 : Int → Int → Int → ByteArray → Option (Int × Int × Int × ByteArray)) (g40 : Int → Option (Int × Bool)) (g41 : Int → Option ByteArray)  (a0 : Int) (a1 : Int) (ret : (Int ⊕ (Int × Int × Int × ByteArray)) → Option β) : convert_ofInt.c g16 g21 g22 g40 g41  a0 a1 ret = (convert_ofInt.c g16 g21 g22 g40 g41  a0 a1 some).bind ret := by
  simp only [convert_ofInt.c, bif_bind, sum_bind, Option.bind_assoc, Option.bind_some, Option.bind_none, Option.bind_fun_some]
theorem convert_ofInt.ev (g16 : Int → Option ByteArray) (g21 : Int → Option Int) (g22 : Int → Int → Int → ByteArray → Option (Int × Int × Int × ByteArray)) (g40 : Int → Option (Int × Bool)) (g41 : Int → Option ByteArray)  (a0 : Int) (a1 : Int) : evAt (env_convert_ofInt g16 g21 g22 g40 g41 ) [] [0, 1] [.v (.one (.d (.int .i64) a0)), .v (.one (.d (.int .i64) a1))] [] some = convert_ofInt.c g16 g21 g22 g40 g41  a0 a1 (fun r => Sum.elim (fun r => some ⟨.v (.one (.fn 38 [(0, 0)])), [some (.box [(.d (.int .i64) r)])]⟩) (fun r => some ⟨.v (.one (.fn 39 [(0, 0)])), [some (.box [(.d (.int .i64) r.1), (.d (.int .i64) r.2.1), (.d (.int .u64) r.2.2.1), (.d .str r.2.2.2)])]⟩) r) := by
  kernel_rfl
def convert_ofInt.f (k : Nat) (a0 : Int) (a1 : Int) : Option (Int ⊕ (Int × Int × Int × ByteArray)) := convert_ofInt.c (convert_Digits.f k) (convert_refuse.f k) (convert_give.f k) (reals_FromInt.f k) (convert_eight.f k)  a0 a1 some
theorem convert_ofInt.is (g16 : Int → Option ByteArray) (g21 : Int → Option Int) (g22 : Int → Int → Int → ByteArray → Option (Int × Int × Int × ByteArray)) (g40 : Int → Option (Int × Bool)) (g41 : Int → Option ByteArray)  : FnIs (env_convert_ofInt g16 g21 g22 g40 g41 ) 24 Go.Proofs.Try.f24 := ⟨Go.Proofs.Try.func24, rfl, rfl, rfl, by decide⟩
theorem convert_ofInt.envok (g16 : Int → Option ByteArray) (g21 : Int → Option Int) (g22 : Int → Int → Int → ByteArray → Option (Int × Int × Int × ByteArray)) (g40 : Int → Option (Int × Bool)) (g41 : Int → Option ByteArray)  (h16 : CtOK Go.Proofs.Try.prog 16 (ct_convert_Digits g16)) (h21 : CtOK Go.Proofs.Try.prog 21 (ct_convert_refuse g21)) (h22 : CtOK Go.Proofs.Try.prog 22 (ct_convert_give g22)) (h40 : CtOK Go.Proofs.Try.prog 40 (ct_reals_FromInt g40)) (h41 : CtOK Go.Proofs.Try.prog 41 (ct_convert_eight g41)) : EnvOK (env_convert_ofInt g16 g21 g22 g40 g41 ).toEnv := by
  intro f c h
  simp only [env_convert_ofInt] at h
  split at h
  · rename_i e; subst e; cases h; exact h16
  split at h
  · rename_i e; subst e; cases h; exact h21
  split at h
  · rename_i e; subst e; cases h; exact h22
  split at h
  · rename_i e; subst e; cases h; exact h40
  split at h
  · rename_i e; subst e; cases h; exact h41
  simp at h
theorem convert_ofInt.ok (k : Nat) : CtOK Go.Proofs.Try.prog 24 (ct_convert_ofInt (convert_ofInt.f k)) := by
  refine ct_of_ev (E := env_convert_ofInt (convert_Digits.f k) (convert_refuse.f k) (convert_give.f k) (reals_FromInt.f k) (convert_eight.f k) ) (convert_ofInt.is _ _ _ _ _ ) (convert_ofInt.envok _ _ _ _ _  (convert_Digits.ok k) (convert_refuse.ok k) (convert_give.ok k) (reals_FromInt.ok k) (convert_eight.ok k)) (fun s hs => by simp [env_convert_ofInt] at hs) rfl ?_
  intro tvs blks res h
  simp only [ct_convert_ofInt] at h
  split at h
  · refine (convert_ofInt.ev (convert_Digits.f k) (convert_refuse.f k) (convert_give.f k) (reals_FromInt.f k) (convert_eight.f k)  _ _ ).trans ?_
    rw [convert_ofInt.c_bind]
    exact h
  · simp at h

/-! ### convert_ofBool: function 23 -/
def ct_convert_ofBool (g : Int → Int → Option ((Int × Int × Int × ByteArray) ⊕ Int)) : Ct where
  nin := 0
  mv := []
  F := fun tvs blks {β} K => match tvs, blks with
    | [.v (.one (.d (.int .i64) a0)), .v (.one (.d (.int .i64) a1))], [] => (g a0 a1).bind fun r => Sum.elim (fun r => K ⟨.v (.one (.fn 39 [(0, 0)])), [some (.box [(.d (.int .i64) r.1), (.d (.int .i64) r.2.1), (.d (.int .u64) r.2.2.1), (.d .str r.2.2.2)])]⟩) (fun r => K ⟨.v (.one (.fn 38 [(0, 0)])), [some (.box [(.d (.int .i64) r)])]⟩) r
    | _, _ => none
  legit := fun tvs blks K r h => by
    split at h
    · obtain ⟨x, hx, hk⟩ := Option.bind_eq_some_iff.1 h
      rcases x with x | x <;> (simp only [Sum.elim_inl, Sum.elim_inr] at hk; exact ⟨_, by simp only [hx, Option.bind_some, Sum.elim_inl, Sum.elim_inr], hk⟩)
    · simp at h
noncomputable def env_convert_ofBool (g22 : Int → Int → Int → ByteArray → Option (Int × Int × Int × ByteArray)) (g24 : Int → Int → Option (Int ⊕ (Int × Int × Int × ByteArray)))  : FEnv := { P := Go.Proofs.Try.prog, ct := fun m => if m = 22 then some (ct_convert_give g22) else if m = 24 then some (ct_convert_ofInt g24) else none, N := 16, body := Go.Proofs.Try.f23.body.getD .skip, rvs := [.tmp 4], rts := [45], nin := 0, rmv := [], segs := [] }
def convert_ofBool.c {β : Type} (g22 : Int → Int → Int → ByteArray → Option (Int × Int × Int × ByteArray)) (g24 : Int → Int → Option (Int ⊕ (Int × Int × Int × ByteArray)))  (a0 : Int) (a1 : Int) (ret : ((Int × Int × Int × ByteArray) ⊕ Int) → Option β) : Option β := (bif (a1 == (5 : Int)) then (bif ((decide ((0 : Int) ≤ a0)) && (decide (a0 < (2 : Int)))) then ((g22 a1 (0 : Int) (0 : Int) (bif (decide (a0 = (0 : Int))) then (ByteArray.mk (List.toArray [(102 : UInt8), (97 : UInt8), (108 : UInt8), (115 : UInt8), (101 : UInt8)])) else (ByteArray.mk (List.toArray [(116 : UInt8), (114 : UInt8), (117 : UInt8), (101 : UInt8)])))).bind fun r0 => (ret (.inl (r0.1, r0.2.1, r0.2.2.1, r0.2.2.2)))) else none) else ((g24 a0 a1).bind fun r1 => (Sum.elim (fun r2 => (ret (.inr (r2)))) (fun r3 => (ret (.inl (r3.1, r3.2.1, r3.2.2.1, r3.2.2.2)))) r1)))
theorem convert_ofBool.c_bind {β : Type} (g22 : Int → Int → Int → ByteArray → Option (Int × Int × Int × ByteArray)) (g24 : Int → Int → Option (Int ⊕ (Int × Int × Int × ByteArray)))  (a0 : Int) (a1 : Int) (ret : ((Int × Int × Int × ByteArray) ⊕ Int) → Option β) : convert_ofBool.c g22 g24  a0 a1 ret = (convert_ofBool.c g22 g24  a0 a1 some).bind ret := by
  simp only [convert_ofBool.c, bif_bind, sum_bind, Option.bind_assoc, Option.bind_some, Option.bind_none, Option.bind_fun_some]
theorem convert_ofBool.ev (g22 : Int → Int → Int → ByteArray → Option (Int × Int × Int × ByteArray)) (g24 : Int → Int → Option (Int ⊕ (Int × Int × Int × ByteArray)))  (a0 : Int) (a1 : Int) : evAt (env_convert_ofBool g22 g24 ) [] [0, 1] [.v (.one (.d (.int .i64) a0)), .v (.one (.d (.int .i64) a1))] [] some = convert_ofBool.c g22 g24  a0 a1 (fun r => Sum.elim (fun r => some ⟨.v (.one (.fn 39 [(0, 0)])), [some (.box [(.d (.int .i64) r.1), (.d (.int .i64) r.2.1), (.d (.int .u64) r.2.2.1), (.d .str r.2.2.2)])]⟩) (fun r => some ⟨.v (.one (.fn 38 [(0, 0)])), [some (.box [(.d (.int .i64) r)])]⟩) r) := by
  kernel_rfl
def convert_ofBool.f (k : Nat) (a0 : Int) (a1 : Int) : Option ((Int × Int × Int × ByteArray) ⊕ Int) := convert_ofBool.c (convert_give.f k) (convert_ofInt.f k)  a0 a1 some
theorem convert_ofBool.is (g22 : Int → Int → Int → ByteArray → Option (Int × Int × Int × ByteArray)) (g24 : Int → Int → Option (Int ⊕ (Int × Int × Int × ByteArray)))  : FnIs (env_convert_ofBool g22 g24 ) 23 Go.Proofs.Try.f23 := ⟨Go.Proofs.Try.func23, rfl, rfl, rfl, by decide⟩
theorem convert_ofBool.envok (g22 : Int → Int → Int → ByteArray → Option (Int × Int × Int × ByteArray)) (g24 : Int → Int → Option (Int ⊕ (Int × Int × Int × ByteArray)))  (h22 : CtOK Go.Proofs.Try.prog 22 (ct_convert_give g22)) (h24 : CtOK Go.Proofs.Try.prog 24 (ct_convert_ofInt g24)) : EnvOK (env_convert_ofBool g22 g24 ).toEnv := by
  intro f c h
  simp only [env_convert_ofBool] at h
  split at h
  · rename_i e; subst e; cases h; exact h22
  split at h
  · rename_i e; subst e; cases h; exact h24
  simp at h
theorem convert_ofBool.ok (k : Nat) : CtOK Go.Proofs.Try.prog 23 (ct_convert_ofBool (convert_ofBool.f k)) := by
  refine ct_of_ev (E := env_convert_ofBool (convert_give.f k) (convert_ofInt.f k) ) (convert_ofBool.is _ _ ) (convert_ofBool.envok _ _  (convert_give.ok k) (convert_ofInt.ok k)) (fun s hs => by simp [env_convert_ofBool] at hs) rfl ?_
  intro tvs blks res h
  simp only [ct_convert_ofBool] at h
  split at h
  · refine (convert_ofBool.ev (convert_give.f k) (convert_ofInt.f k)  _ _ ).trans ?_
    rw [convert_ofBool.c_bind]
    exact h
  · simp at h

/-! ### math_archTrunc: function 58 (no body) -/
def ct_math_archTrunc (g : Nat → Option Nat) : Ct where
  nin := 0
  mv := []
  F := fun tvs blks {β} K => match tvs, blks with
    | [.v (.one (.d .flt a0))], [] => (g a0).bind fun r => K ⟨.v (.one (.d .flt r)), []⟩
    | _, _ => none
  legit := fun tvs blks K r h => by
    split at h
    · obtain ⟨x, hx, hk⟩ := Option.bind_eq_some_iff.1 h
      refine ⟨_, ?_, hk⟩
      simp only [hx, Option.bind_some]
    · simp at h
def math_archTrunc.f (k : Nat) (a0 : Nat) : Option Nat := if Fl.rung a0 < Fl.inf ∧ Fl.T (Fl.rung a0) < 18446744073709551616 then some (Ieee.double.word (Fl.neg a0) (Fl.near (Fl.T (Fl.rung a0)))) else none
theorem math_archTrunc.arch {n : Nat} (h : Fl.rung n < Fl.inf) (hT : Fl.T (Fl.rung n) < 18446744073709551616) (W : World) :
    (callFunc 58 #[.float .f64 n]).run Go.Proofs.Try.prog W = .ok (.value (.float .f64 (Ieee.double.word (Fl.neg n) (Fl.near (Fl.T (Fl.rung n)))))) W := by
  have h1 := run_callFunc_extern (P := Go.Proofs.Try.prog) (e := Extern.MathFloor.toIntegral "math.archTrunc" .zero) Go.Proofs.Try.func58 (by kernel_rfl) (by kernel_rfl) (by kernel_rfl) (by kernel_rfl) #[.float .f64 n] W
  rw [h1]
  have hi := Fl.integral_eq h
  obtain ⟨m, k, hr, _⟩ := Fl.read_num h
  have hd : FloatKind.f64.decode n = .number (Fl.neg n) m (-1074 + (k : Int)) := hr
  have hw : FloatKind.f64.encode ((Ieee.Datum.number (Fl.neg n) m (-1074 + (k : Int))).integral .zero) = Ieee.double.word (Fl.neg n) (Fl.near (Fl.T (Fl.rung n))) := by
    rw [← hr, hi]
    exact Fl.nearest_eq _ hT
  have e : (Extern.MathFloor.toIntegral "math.archTrunc" .zero #[.float .f64 n]).run Go.Proofs.Try.prog W = .ok (.float .f64 (Ieee.double.word (Fl.neg n) (Fl.near (Fl.T (Fl.rung n))))) W := by
    conv => lhs; arg 2; whnf
    rw [hd]
    simp only [hw]
    rfl
  rw [e]; rfl
theorem math_archTrunc.ok (k : Nat) : CtOK Go.Proofs.Try.prog 58 (ct_math_archTrunc (math_archTrunc.f k)) := by
  refine ct_extern ?_
  intro tvs blks res h
  simp only [ct_math_archTrunc] at h
  split at h
  · rename_i a0
    simp only [math_archTrunc.f] at h
    split at h
    · rename_i hc
      obtain ⟨c1, c2⟩ := hc
      simp only [Option.bind_some, Option.some.injEq] at h; subst h
      refine ⟨.float .f64 (Ieee.double.word (Fl.neg a0) (Fl.near (Fl.T (Fl.rung a0)))), ?_, rfl, rfl⟩
      intro w S ρ H vals hm hv
      obtain ⟨v0, m0, rfl, h0, hv⟩ := All2.cons_left hv
      cases All2.nil_left hv
      simp only [RepTV, RepVV, RepAV, Rd, List.cons.injEq, and_true] at h0
      subst h0
      exact ⟨math_archTrunc.arch c1 c2 w, rfl⟩
    · simp at h
  · simp at h

/-! ### math_Abs: function 62 -/
def ct_math_Abs (g : Nat → Option Nat) : Ct where
  nin := 0
  mv := []
  F := fun tvs blks {β} K => match tvs, blks with
    | [.v (.one (.d .flt a0))], [] => (g a0).bind fun r => K ⟨.v (.one (.d .flt r)), []⟩
    | _, _ => none
  legit := fun tvs blks K r h => by
    split at h
    · obtain ⟨x, hx, hk⟩ := Option.bind_eq_some_iff.1 h
      refine ⟨_, ?_, hk⟩
      simp only [hx, Option.bind_some]
    · simp at h
noncomputable def env_math_Abs (g50 : Int → Option Nat) (g54 : Nat → Option Int)  : FEnv := { P := Go.Proofs.Try.prog, ct := fun m => if m = 50 then some (ct_math_Float64frombits g50) else if m = 54 then some (ct_math_Float64bits g54) else none, N := 7, body := Go.Proofs.Try.f62.body.getD .skip, rvs := [.tmp 2], rts := [70], nin := 0, rmv := [], segs := [] }
def math_Abs.c {β : Type} (g50 : Int → Option Nat) (g54 : Nat → Option Int)  (a0 : Nat) (ret : Nat → Option β) : Option β := ((g54 a0).bind fun r0 => ((g50 (IntKind.wrap IntKind.u64 ((BitVec.toNat ((BitVec.ofInt (64 : Nat) r0) &&& (Complement.complement (BitVec.ofInt (64 : Nat) (9223372036854775808 : Int))))) : Int))).bind fun r1 => (ret (r1))))
theorem math_Abs.c_bind {β : Type} (g50 : Int → Option Nat) (g54 : Nat → Option Int)  (a0 : Nat) (ret : Nat → Option β) : math_Abs.c g50 g54  a0 ret = (math_Abs.c g50 g54  a0 some).bind ret := by
  simp only [math_Abs.c, bif_bind, sum_bind, Option.bind_assoc, Option.bind_some, Option.bind_none, Option.bind_fun_some]
theorem math_Abs.ev (g50 : Int → Option Nat) (g54 : Nat → Option Int)  (a0 : Nat) : evAt (env_math_Abs g50 g54 ) [] [0] [.v (.one (.d .flt a0))] [] some = math_Abs.c g50 g54  a0 (fun r => some ⟨.v (.one (.d .flt r)), []⟩) := by
  kernel_rfl
def math_Abs.f (k : Nat) (a0 : Nat) : Option Nat := math_Abs.c (math_Float64frombits.f k) (math_Float64bits.f k)  a0 some
theorem math_Abs.is (g50 : Int → Option Nat) (g54 : Nat → Option Int)  : FnIs (env_math_Abs g50 g54 ) 62 Go.Proofs.Try.f62 := ⟨Go.Proofs.Try.func62, rfl, rfl, rfl, by decide⟩
theorem math_Abs.envok (g50 : Int → Option Nat) (g54 : Nat → Option Int)  (h50 : CtOK Go.Proofs.Try.prog 50 (ct_math_Float64frombits g50)) (h54 : CtOK Go.Proofs.Try.prog 54 (ct_math_Float64bits g54)) : EnvOK (env_math_Abs g50 g54 ).toEnv := by
  intro f c h
  simp only [env_math_Abs] at h
  split at h
  · rename_i e; subst e; cases h; exact h50
  split at h
  · rename_i e; subst e; cases h; exact h54
  simp at h
theorem math_Abs.ok (k : Nat) : CtOK Go.Proofs.Try.prog 62 (ct_math_Abs (math_Abs.f k)) := by
  refine ct_of_ev (E := env_math_Abs (math_Float64frombits.f k) (math_Float64bits.f k) ) (math_Abs.is _ _ ) (math_Abs.envok _ _  (math_Float64frombits.ok k) (math_Float64bits.ok k)) (fun s hs => by simp [env_math_Abs] at hs) rfl ?_
  intro tvs blks res h
  simp only [ct_math_Abs] at h
  split at h
  · refine (math_Abs.ev (math_Float64frombits.f k) (math_Float64bits.f k)  _ ).trans ?_
    rw [math_Abs.c_bind]
    exact h
  · simp at h

/-! ### math_Copysign: function 63 -/
def ct_math_Copysign (g : Nat → Nat → Option Nat) : Ct where
  nin := 0
  mv := []
  F := fun tvs blks {β} K => match tvs, blks with
    | [.v (.one (.d .flt a0)), .v (.one (.d .flt a1))], [] => (g a0 a1).bind fun r => K ⟨.v (.one (.d .flt r)), []⟩
    | _, _ => none
  legit := fun tvs blks K r h => by
    split at h
    · obtain ⟨x, hx, hk⟩ := Option.bind_eq_some_iff.1 h
      refine ⟨_, ?_, hk⟩
      simp only [hx, Option.bind_some]
    · simp at h
noncomputable def env_math_Copysign (g50 : Int → Option Nat) (g54 : Nat → Option Int)  : FEnv := { P := Go.Proofs.Try.prog, ct := fun m => if m = 50 then some (ct_math_Float64frombits g50) else if m = 54 then some (ct_math_Float64bits g54) else none, N := 13, body := Go.Proofs.Try.f63.body.getD .skip, rvs := [.tmp 4], rts := [70], nin := 0, rmv := [], segs := [] }
def math_Copysign.c {β : Type} (g50 : Int → Option Nat) (g54 : Nat → Option Int)  (a0 : Nat) (a1 : Nat) (ret : Nat → Option β) : Option β := ((g54 a0).bind fun r0 => ((g54 a1).bind fun r1 => ((g50 (IntKind.wrap IntKind.u64 ((BitVec.toNat ((BitVec.ofInt (64 : Nat) (IntKind.wrap IntKind.u64 ((BitVec.toNat ((BitVec.ofInt (64 : Nat) r0) &&& (Complement.complement (BitVec.ofInt (64 : Nat) (9223372036854775808 : Int))))) : Int))) ||| (BitVec.ofInt (64 : Nat) (IntKind.wrap IntKind.u64 ((BitVec.toNat ((BitVec.ofInt (64 : Nat) r1) &&& (BitVec.ofInt (64 : Nat) (9223372036854775808 : Int)))) : Int))))) : Int))).bind fun r2 => (ret (r2)))))
theorem math_Copysign.c_bind {β : Type} (g50 : Int → Option Nat) (g54 : Nat → Option Int)  (a0 : Nat) (a1 : Nat) (ret : Nat → Option β) : math_Copysign.c g50 g54  a0 a1 ret = (math_Copysign.c g50 g54  a0 a1 some).bind ret := by
  simp only [math_Copysign.c, bif_bind, sum_bind, Option.bind_assoc, Option.bind_some, Option.bind_none, Option.bind_fun_some]
theorem math_Copysign.ev (g50 : Int → Option Nat) (g54 : Nat → Option Int)  (a0 : Nat) (a1 : Nat) : evAt (env_math_Copysign g50 g54 ) [] [0, 1] [.v (.one (.d .flt a0)), .v (.one (.d .flt a1))] [] some = math_Copysign.c g50 g54  a0 a1 (fun r => some ⟨.v (.one (.d .flt r)), []⟩) := by
  kernel_rfl
def math_Copysign.f (k : Nat) (a0 : Nat) (a1 : Nat) : Option Nat := math_Copysign.c (math_Float64frombits.f k) (math_Float64bits.f k)  a0 a1 some
theorem math_Copysign.is (g50 : Int → Option Nat) (g54 : Nat → Option Int)  : FnIs (env_math_Copysign g50 g54 ) 63 Go.Proofs.Try.f63 := ⟨Go.Proofs.Try.func63, rfl, rfl, rfl, by decide⟩
theorem math_Copysign.envok (g50 : Int → Option Nat) (g54 : Nat → Option Int)  (h50 : CtOK Go.Proofs.Try.prog 50 (ct_math_Float64frombits g50)) (h54 : CtOK Go.Proofs.Try.prog 54 (ct_math_Float64bits g54)) : EnvOK (env_math_Copysign g50 g54 ).toEnv := by
  intro f c h
  simp only [env_math_Copysign] at h
  split at h
  · rename_i e; subst e; cases h; exact h50
  split at h
  · rename_i e; subst e; cases h; exact h54
  simp at h
theorem math_Copysign.ok (k : Nat) : CtOK Go.Proofs.Try.prog 63 (ct_math_Copysign (math_Copysign.f k)) := by
  refine ct_of_ev (E := env_math_Copysign (math_Float64frombits.f k) (math_Float64bits.f k) ) (math_Copysign.is _ _ ) (math_Copysign.envok _ _  (math_Float64frombits.ok k) (math_Float64bits.ok k)) (fun s hs => by simp [env_math_Copysign] at hs) rfl ?_
  intro tvs blks res h
  simp only [ct_math_Copysign] at h
  split at h
  · refine (math_Copysign.ev (math_Float64frombits.f k) (math_Float64bits.f k)  _ _ ).trans ?_
    rw [math_Copysign.c_bind]
    exact h
  · simp at h
end Go.Proofs.Ytndkobhclggeiaa.Aev
