/- By a program of this session (AEV): functions of the program as plain functions, and that the machine does what they say. -/
import Derived.Test.YtchlbajnmhffpaaAevW
import Derived.Test.YtchlbajnmhffpaaProg
import Derived.Laws.Externs
import Derived.Lib.Bytealg
namespace Go.Proofs.Ytchlbajnmhffpaa.Aev
set_option linter.unusedVariables false
set_option linter.unusedSimpArgs false
set_option maxRecDepth 100000
set_option maxHeartbeats 4000000
open Go
/-! ### words_quoted: function 21 -/
def ct_words_quoted (g : ByteArray → Int → Option Int) : Ct where
  nin := 0
  mv := []
  F := fun tvs blks {β} K => match tvs, blks with
    | [.v (.one (.d .str a0)), .v (.one (.d (.int .i64) a1))], [] => (g a0 a1).bind fun r => K ⟨.v (.one (.d (.int .i64) r)), []⟩
    | _, _ => none
  legit := fun tvs blks K r h => by
    split at h
    · obtain ⟨x, hx, hk⟩ := Option.bind_eq_some_iff.1 h
      refine ⟨_, ?_, hk⟩
      simp only [hx, Option.bind_some]
    · simp at h
def seg_words_quoted_0 (g : ByteArray → Int → Option Int) : Seg where
  path := [100, 1]
  prep := []
  keep := [0, 5]
  F := fun tvs blks {β} K => match tvs, blks with
    | [.v (.one (.d .str x0)), .v (.one (.d (.int .i64) x1))], [] => (g x0 x1).bind fun r => K ⟨.v (.one (.d (.int .i64) r)), []⟩
    | _, _ => none
  legit := fun tvs blks K r h => by
    split at h
    · obtain ⟨x, hx, hk⟩ := Option.bind_eq_some_iff.1 h
      refine ⟨_, ?_, hk⟩
      simp only [hx, Option.bind_some]
    · simp at h
noncomputable def env_words_quoted  (s0 : ByteArray → Int → Option Int) : FEnv := { P := Go.Proofs.Try.prog, ct := fun m => none, N := 29, body := Go.Proofs.Try.f21.body.getD .skip, rvs := [.tmp 4], rts := [3], nin := 0, rmv := [], segs := [seg_words_quoted_0 s0] }
def words_quoted.c {β : Type}  (s0 : ByteArray → Int → Option Int) (a0 : ByteArray) (a1 : Int) (ret : Int → Option β) : Option β := (bif (decide ((IntKind.wrap IntKind.i64 (a1 + (1 : Int))) ≥ ((ByteArray.size a0) : Int))) then (ret ((-1 : Int))) else (bif ((decide ((0 : Int) ≤ (IntKind.wrap IntKind.i64 (a1 + (1 : Int))))) && (decide ((IntKind.wrap IntKind.i64 (a1 + (1 : Int))) < ((ByteArray.size a0) : Int)))) then (bif ((bt a0 (IntKind.wrap IntKind.i64 (a1 + (1 : Int)))) == (34 : Int)) then (ret ((IntKind.wrap IntKind.i64 ((IntKind.wrap IntKind.i64 (a1 + (1 : Int))) + (1 : Int))))) else (bif ((decide ((0 : Int) ≤ (IntKind.wrap IntKind.i64 (a1 + (1 : Int))))) && (decide ((IntKind.wrap IntKind.i64 (a1 + (1 : Int))) < ((ByteArray.size a0) : Int)))) then (bif ((bt a0 (IntKind.wrap IntKind.i64 (a1 + (1 : Int)))) == (92 : Int)) then ((s0 a0 (IntKind.wrap IntKind.i64 ((IntKind.wrap IntKind.i64 ((IntKind.wrap IntKind.i64 (a1 + (1 : Int))) + (1 : Int))) + (1 : Int)))).bind ret) else ((s0 a0 (IntKind.wrap IntKind.i64 ((IntKind.wrap IntKind.i64 (a1 + (1 : Int))) + (1 : Int)))).bind ret)) else none)) else none))
def words_quoted.s0c {β : Type}  (s0 : ByteArray → Int → Option Int) (x0 : ByteArray) (x1 : Int) (ret : Int → Option β) : Option β := (bif (decide (x1 ≥ ((ByteArray.size x0) : Int))) then (ret ((-1 : Int))) else (bif ((decide ((0 : Int) ≤ x1)) && (decide (x1 < ((ByteArray.size x0) : Int)))) then (bif ((bt x0 x1) == (34 : Int)) then (ret ((IntKind.wrap IntKind.i64 (x1 + (1 : Int))))) else (bif ((decide ((0 : Int) ≤ x1)) && (decide (x1 < ((ByteArray.size x0) : Int)))) then (bif ((bt x0 x1) == (92 : Int)) then ((s0 x0 (IntKind.wrap IntKind.i64 ((IntKind.wrap IntKind.i64 (x1 + (1 : Int))) + (1 : Int)))).bind ret) else ((s0 x0 (IntKind.wrap IntKind.i64 (x1 + (1 : Int)))).bind ret)) else none)) else none))
theorem words_quoted.c_bind {β : Type}  (s0 : ByteArray → Int → Option Int) (a0 : ByteArray) (a1 : Int) (ret : Int → Option β) : words_quoted.c  s0 a0 a1 ret = (words_quoted.c  s0 a0 a1 some).bind ret := by
  simp only [words_quoted.c, bif_bind, sum_bind, Option.bind_assoc, Option.bind_some, Option.bind_none, Option.bind_fun_some]
theorem words_quoted.s0c_bind {β : Type}  (s0 : ByteArray → Int → Option Int) (x0 : ByteArray) (x1 : Int) (ret : Int → Option β) : words_quoted.s0c  s0 x0 x1 ret = (words_quoted.s0c  s0 x0 x1 some).bind ret := by
  simp only [words_quoted.s0c, bif_bind, sum_bind, Option.bind_assoc, Option.bind_some, Option.bind_none, Option.bind_fun_some]
theorem words_quoted.ev  (s0 : ByteArray → Int → Option Int) (a0 : ByteArray) (a1 : Int) : evAt (env_words_quoted  s0) [] [0, 1] [.v (.one (.d .str a0)), .v (.one (.d (.int .i64) a1))] [] some = words_quoted.c  s0 a0 a1 (fun r => some ⟨.v (.one (.d (.int .i64) r)), []⟩) := by
  kernel_rfl
theorem words_quoted.s0_ev  (s0 : ByteArray → Int → Option Int) (x0 : ByteArray) (x1 : Int) : evAt (env_words_quoted  s0) [100, 1] [0, 5] [.v (.one (.d .str x0)), .v (.one (.d (.int .i64) x1))] [] some = words_quoted.s0c  s0 x0 x1 (fun r => some ⟨.v (.one (.d (.int .i64) r)), []⟩) := by
  kernel_rfl
def words_quoted.s0 : Nat → ByteArray → Int → Option Int
  | 0, _, _ => none
  | k + 1, x0, x1 => words_quoted.s0c  (words_quoted.s0 k) x0 x1 some
def words_quoted.f (k : Nat) (a0 : ByteArray) (a1 : Int) : Option Int := words_quoted.c  (words_quoted.s0 k) a0 a1 some
theorem words_quoted.is  (s0 : ByteArray → Int → Option Int) : FnIs (env_words_quoted  s0) 21 Go.Proofs.Try.f21 := ⟨Go.Proofs.Try.func21, rfl, rfl, rfl, by decide⟩
theorem words_quoted.envok  (s0 : ByteArray → Int → Option Int)  : EnvOK (env_words_quoted  s0).toEnv := by
  intro f c h
  simp only [env_words_quoted] at h
  simp at h
theorem words_quoted.segs_ok : ∀ k, ∀ s ∈ (env_words_quoted  (words_quoted.s0 k)).segs, SegOK (env_words_quoted  (words_quoted.s0 k)) Go.Proofs.Try.f21 s
  | 0 => by
    intro s hs
    simp only [env_words_quoted, List.mem_cons, List.not_mem_nil, or_false] at hs
    rcases hs with rfl
    · intro tvs blks res h; exfalso; simp only [seg_words_quoted_0] at h; split at h <;> simp [words_quoted.s0] at h
  | k + 1 => by
    have ih := words_quoted.segs_ok k
    intro s hs
    simp only [env_words_quoted, List.mem_cons, List.not_mem_nil, or_false] at hs
    rcases hs with rfl
    · refine seg_of_ev (E := env_words_quoted  (words_quoted.s0 k)) (words_quoted.envok _  ) ⟨(words_quoted.is  (words_quoted.s0 k)).rvs⟩ ih ?_
      intro tvs blks res h
      simp only [seg_words_quoted_0] at h
      split at h
      · refine (words_quoted.s0_ev  (words_quoted.s0 k) _ _ ).trans ?_
        rw [words_quoted.s0c_bind]
        exact h
      · simp at h
theorem words_quoted.ok (k : Nat) : CtOK Go.Proofs.Try.prog 21 (ct_words_quoted (words_quoted.f k)) := by
  refine ct_of_ev (E := env_words_quoted  (words_quoted.s0 k)) (words_quoted.is _ ) (words_quoted.envok _  ) (words_quoted.segs_ok k) rfl ?_
  intro tvs blks res h
  simp only [ct_words_quoted] at h
  split at h
  · refine (words_quoted.ev  (words_quoted.s0 k) _ _ ).trans ?_
    rw [words_quoted.c_bind]
    exact h
  · simp at h

/-! ### words_Split: function 8 -/
def ct_words_Split (g : ByteArray → Option ((List ByteArray) × Int)) : Ct where
  nin := 0
  mv := []
  F := fun tvs blks {β} K => match tvs, blks with
    | [.v (.one (.d .str a0))], [] => (g a0).bind fun r => K ⟨.tup [(.one (.d (.sl .str) r.1)), (.one (.d (.int .i64) r.2))], []⟩
    | _, _ => none
  legit := fun tvs blks K r h => by
    split at h
    · obtain ⟨x, hx, hk⟩ := Option.bind_eq_some_iff.1 h
      refine ⟨_, ?_, hk⟩
      simp only [hx, Option.bind_some]
    · simp at h
def seg_words_Split_0 (g : ByteArray → (List Int) → Int → Int → Option ((List ByteArray) × Int)) : Seg where
  path := [4, 1, 0, 1]
  prep := []
  keep := [0, 10, 11, 12]
  F := fun tvs blks {β} K => match tvs, blks with
    | [.v (.one (.d .str x0)), .v (.one (.d (.sl (.int .u8)) x1)), .v (.one (.d (.int .i64) x2)), .v (.one (.d (.int .i64) x3))], [] => (g x0 x1 x2 x3).bind fun r => K ⟨.tup [(.one (.d (.sl .str) r.1)), (.one (.d (.int .i64) r.2))], []⟩
    | _, _ => none
  legit := fun tvs blks K r h => by
    split at h
    · obtain ⟨x, hx, hk⟩ := Option.bind_eq_some_iff.1 h
      refine ⟨_, ?_, hk⟩
      simp only [hx, Option.bind_some]
    · simp at h
def seg_words_Split_1 (g : ByteArray → (List Int) → Int → Int → Bool → Option ((List ByteArray) × Int)) : Seg where
  path := [1, 1, 4, 0, 1, 1, 5, 4, 1, 0, 1]
  prep := []
  keep := [0, 10, 11, 12, 21]
  F := fun tvs blks {β} K => match tvs, blks with
    | [.v (.one (.d .str x0)), .v (.one (.d (.sl (.int .u8)) x1)), .v (.one (.d (.int .i64) x2)), .v (.one (.d (.int .i64) x3)), .v (.one (.d .bool x4))], [] => (g x0 x1 x2 x3 x4).bind fun r => K ⟨.tup [(.one (.d (.sl .str) r.1)), (.one (.d (.int .i64) r.2))], []⟩
    | _, _ => none
  legit := fun tvs blks K r h => by
    split at h
    · obtain ⟨x, hx, hk⟩ := Option.bind_eq_some_iff.1 h
      refine ⟨_, ?_, hk⟩
      simp only [hx, Option.bind_some]
    · simp at h
def seg_words_Split_2 (g : ByteArray → (List Int) → Int → Int → Option ((List ByteArray) × Int)) : Seg where
  path := [1, 1, 1, 5, 4, 1, 0, 1]
  prep := []
  keep := [0, 10, 11, 12]
  F := fun tvs blks {β} K => match tvs, blks with
    | [.v (.one (.d .str x0)), .v (.one (.d (.sl (.int .u8)) x1)), .v (.one (.d (.int .i64) x2)), .v (.one (.d (.int .i64) x3))], [] => (g x0 x1 x2 x3).bind fun r => K ⟨.tup [(.one (.d (.sl .str) r.1)), (.one (.d (.int .i64) r.2))], []⟩
    | _, _ => none
  legit := fun tvs blks K r h => by
    split at h
    · obtain ⟨x, hx, hk⟩ := Option.bind_eq_some_iff.1 h
      refine ⟨_, ?_, hk⟩
      simp only [hx, Option.bind_some]
    · simp at h
def seg_words_Split_3 (g : ByteArray → Int → Int → (List ByteArray) → Option ((List ByteArray) × Int)) : Seg where
  path := [4, 1, 0, 1, 1, 1, 1]
  prep := [.own 6 .str]
  keep := [0, 6, 7, 8]
  F := fun tvs blks {β} K => match tvs, blks with
    | [.v (.one (.d .str x0)), .v (.one (.own 0)), .v (.one (.d (.int .i64) x1)), .v (.one (.d (.int .i64) x2))], [some (.own .str false x3)] => (g x0 x1 x2 x3).bind fun r => K ⟨.tup [(.one (.d (.sl .str) r.1)), (.one (.d (.int .i64) r.2))], []⟩
    | _, _ => none
  legit := fun tvs blks K r h => by
    split at h
    · obtain ⟨x, hx, hk⟩ := Option.bind_eq_some_iff.1 h
      refine ⟨_, ?_, hk⟩
      simp only [hx, Option.bind_some]
    · simp at h
def seg_words_Split_4 (g : ByteArray → Int → Int → (List ByteArray) → Option ((List ByteArray) × Int)) : Seg where
  path := [1, 2, 1, 4, 0, 4, 1, 5, 4, 1, 0, 1, 1, 1, 1]
  prep := [.own 6 .str]
  keep := [0, 6, 7, 8]
  F := fun tvs blks {β} K => match tvs, blks with
    | [.v (.one (.d .str x0)), .v (.one (.own 0)), .v (.one (.d (.int .i64) x1)), .v (.one (.d (.int .i64) x2))], [some (.own .str false x3)] => (g x0 x1 x2 x3).bind fun r => K ⟨.tup [(.one (.d (.sl .str) r.1)), (.one (.d (.int .i64) r.2))], []⟩
    | _, _ => none
  legit := fun tvs blks K r h => by
    split at h
    · obtain ⟨x, hx, hk⟩ := Option.bind_eq_some_iff.1 h
      refine ⟨_, ?_, hk⟩
      simp only [hx, Option.bind_some]
    · simp at h
def seg_words_Split_5 (g : ByteArray → Int → Int → (List ByteArray) → Option ((List ByteArray) × Int)) : Seg where
  path := [1, 4, 1, 5, 4, 1, 0, 1, 1, 1, 1]
  prep := []
  keep := [0, 6, 7, 8]
  F := fun tvs blks {β} K => match tvs, blks with
    | [.v (.one (.d .str x0)), .v (.one (.own 0)), .v (.one (.d (.int .i64) x1)), .v (.one (.d (.int .i64) x2))], [some (.own .str false x3)] => (g x0 x1 x2 x3).bind fun r => K ⟨.tup [(.one (.d (.sl .str) r.1)), (.one (.d (.int .i64) r.2))], []⟩
    | _, _ => none
  legit := fun tvs blks K r h => by
    split at h
    · obtain ⟨x, hx, hk⟩ := Option.bind_eq_some_iff.1 h
      refine ⟨_, ?_, hk⟩
      simp only [hx, Option.bind_some]
    · simp at h
noncomputable def env_words_Split (g21 : ByteArray → Int → Option Int) (s0 : ByteArray → (List Int) → Int → Int → Option ((List ByteArray) × Int)) (s1 : ByteArray → (List Int) → Int → Int → Bool → Option ((List ByteArray) × Int)) (s2 : ByteArray → (List Int) → Int → Int → Option ((List ByteArray) × Int)) (s3 : ByteArray → Int → Int → (List ByteArray) → Option ((List ByteArray) × Int)) (s4 : ByteArray → Int → Int → (List ByteArray) → Option ((List ByteArray) × Int)) (s5 : ByteArray → Int → Int → (List ByteArray) → Option ((List ByteArray) × Int)) : FEnv := { P := Go.Proofs.Try.prog, ct := fun m => if m = 21 then some (ct_words_quoted g21) else none, N := 67, body := Go.Proofs.Try.f8.body.getD .skip, rvs := [.tmp 2, .tmp 3], rts := [23, 24], nin := 0, rmv := [], segs := [seg_words_Split_0 s0, seg_words_Split_1 s1, seg_words_Split_2 s2, seg_words_Split_3 s3, seg_words_Split_4 s4, seg_words_Split_5 s5] }
def words_Split.c {β : Type} (g21 : ByteArray → Int → Option Int) (s0 : ByteArray → (List Int) → Int → Int → Option ((List ByteArray) × Int)) (s1 : ByteArray → (List Int) → Int → Int → Bool → Option ((List ByteArray) × Int)) (s2 : ByteArray → (List Int) → Int → Int → Option ((List ByteArray) × Int)) (s3 : ByteArray → Int → Int → (List ByteArray) → Option ((List ByteArray) × Int)) (s4 : ByteArray → Int → Int → (List ByteArray) → Option ((List ByteArray) × Int)) (s5 : ByteArray → Int → Int → (List ByteArray) → Option ((List ByteArray) × Int)) (a0 : ByteArray) (ret : ((List ByteArray) × Int) → Option β) : Option β := ((s0 a0 (List.map (fun b => ((UInt8.toNat b) : Int)) (Array.toList (ByteArray.data a0))) ((List.length (List.map (fun b => ((UInt8.toNat b) : Int)) (Array.toList (ByteArray.data a0)))) : Int) (0 : Int)).bind ret)
def words_Split.s0c {β : Type} (g21 : ByteArray → Int → Option Int) (s0 : ByteArray → (List Int) → Int → Int → Option ((List ByteArray) × Int)) (s1 : ByteArray → (List Int) → Int → Int → Bool → Option ((List ByteArray) × Int)) (s2 : ByteArray → (List Int) → Int → Int → Option ((List ByteArray) × Int)) (s3 : ByteArray → Int → Int → (List ByteArray) → Option ((List ByteArray) × Int)) (s4 : ByteArray → Int → Int → (List ByteArray) → Option ((List ByteArray) × Int)) (s5 : ByteArray → Int → Int → (List ByteArray) → Option ((List ByteArray) × Int)) (x0 : ByteArray) (x1 : List Int) (x2 : Int) (x3 : Int) (ret : ((List ByteArray) × Int) → Option β) : Option β := (bif (decide (x3 < x2)) then (bif ((decide ((0 : Int) ≤ x3)) && (decide (x3 < ((List.length x1) : Int)))) then (bif (decide ((elem (Ty.int IntKind.u8) x1 x3) < (32 : Int))) then ((s1 x0 x1 x2 x3 true).bind ret) else ((s1 x0 x1 x2 x3 (decide ((elem (Ty.int IntKind.u8) x1 x3) > (126 : Int)))).bind ret)) else none) else ((s3 x0 (-1 : Int) (0 : Int) []).bind ret))
def words_Split.s1c {β : Type} (g21 : ByteArray → Int → Option Int) (s0 : ByteArray → (List Int) → Int → Int → Option ((List ByteArray) × Int)) (s1 : ByteArray → (List Int) → Int → Int → Bool → Option ((List ByteArray) × Int)) (s2 : ByteArray → (List Int) → Int → Int → Option ((List ByteArray) × Int)) (s3 : ByteArray → Int → Int → (List ByteArray) → Option ((List ByteArray) × Int)) (s4 : ByteArray → Int → Int → (List ByteArray) → Option ((List ByteArray) × Int)) (s5 : ByteArray → Int → Int → (List ByteArray) → Option ((List ByteArray) × Int)) (x0 : ByteArray) (x1 : List Int) (x2 : Int) (x3 : Int) (x4 : Bool) (ret : ((List ByteArray) × Int) → Option β) : Option β := (bif x4 then (ret ([], (7 : Int))) else ((s2 x0 x1 x2 x3).bind ret))
def words_Split.s2c {β : Type} (g21 : ByteArray → Int → Option Int) (s0 : ByteArray → (List Int) → Int → Int → Option ((List ByteArray) × Int)) (s1 : ByteArray → (List Int) → Int → Int → Bool → Option ((List ByteArray) × Int)) (s2 : ByteArray → (List Int) → Int → Int → Option ((List ByteArray) × Int)) (s3 : ByteArray → Int → Int → (List ByteArray) → Option ((List ByteArray) × Int)) (s4 : ByteArray → Int → Int → (List ByteArray) → Option ((List ByteArray) × Int)) (s5 : ByteArray → Int → Int → (List ByteArray) → Option ((List ByteArray) × Int)) (x0 : ByteArray) (x1 : List Int) (x2 : Int) (x3 : Int) (ret : ((List ByteArray) × Int) → Option β) : Option β := ((s0 x0 x1 x2 (IntKind.wrap IntKind.i64 (x3 + (1 : Int)))).bind ret)
def words_Split.s3c {β : Type} (g21 : ByteArray → Int → Option Int) (s0 : ByteArray → (List Int) → Int → Int → Option ((List ByteArray) × Int)) (s1 : ByteArray → (List Int) → Int → Int → Bool → Option ((List ByteArray) × Int)) (s2 : ByteArray → (List Int) → Int → Int → Option ((List ByteArray) × Int)) (s3 : ByteArray → Int → Int → (List ByteArray) → Option ((List ByteArray) × Int)) (s4 : ByteArray → Int → Int → (List ByteArray) → Option ((List ByteArray) × Int)) (s5 : ByteArray → Int → Int → (List ByteArray) → Option ((List ByteArray) × Int)) (x0 : ByteArray) (x1 : Int) (x2 : Int) (x3 : List ByteArray) (ret : ((List ByteArray) × Int) → Option β) : Option β := (bif (decide (x2 < ((ByteArray.size x0) : Int))) then (bif ((decide ((0 : Int) ≤ x2)) && (decide (x2 < ((ByteArray.size x0) : Int)))) then (bif ((bt x0 x2) == (32 : Int)) then (bif (decide (x1 ≥ (0 : Int))) then (bif (((decide ((0 : Int) ≤ x1)) && (decide (x1 ≤ x2))) && (decide (x2 ≤ ((ByteArray.size x0) : Int)))) then (bif (decide ((((List.length x3) + (1 : Nat)) * (16 : Nat)) ≤ (35184372088832 : Nat))) then ((s4 x0 (-1 : Int) x2 (x3 ++ [(ByteArray.extract x0 (Int.toNat x1) (Int.toNat x2))])).bind ret) else none) else none) else ((s4 x0 x1 x2 x3).bind ret)) else (bif (decide (x1 < (0 : Int))) then ((s5 x0 x2 x2 x3).bind ret) else ((s5 x0 x1 x2 x3).bind ret))) else none) else (bif (decide (x1 ≥ (0 : Int))) then (bif (((decide ((0 : Int) ≤ x1)) && (decide (x1 ≤ ((ByteArray.size x0) : Int)))) && (decide (((ByteArray.size x0) : Int) ≤ ((ByteArray.size x0) : Int)))) then (bif (decide ((((List.length x3) + (1 : Nat)) * (16 : Nat)) ≤ (35184372088832 : Nat))) then (ret ((x3 ++ [(ByteArray.extract x0 (Int.toNat x1) (Int.toNat ((ByteArray.size x0) : Int)))]), (0 : Int))) else none) else none) else (ret (x3, (0 : Int)))))
def words_Split.s4c {β : Type} (g21 : ByteArray → Int → Option Int) (s0 : ByteArray → (List Int) → Int → Int → Option ((List ByteArray) × Int)) (s1 : ByteArray → (List Int) → Int → Int → Bool → Option ((List ByteArray) × Int)) (s2 : ByteArray → (List Int) → Int → Int → Option ((List ByteArray) × Int)) (s3 : ByteArray → Int → Int → (List ByteArray) → Option ((List ByteArray) × Int)) (s4 : ByteArray → Int → Int → (List ByteArray) → Option ((List ByteArray) × Int)) (s5 : ByteArray → Int → Int → (List ByteArray) → Option ((List ByteArray) × Int)) (x0 : ByteArray) (x1 : Int) (x2 : Int) (x3 : List ByteArray) (ret : ((List ByteArray) × Int) → Option β) : Option β := ((s3 x0 x1 (IntKind.wrap IntKind.i64 (x2 + (1 : Int))) x3).bind ret)
def words_Split.s5c {β : Type} (g21 : ByteArray → Int → Option Int) (s0 : ByteArray → (List Int) → Int → Int → Option ((List ByteArray) × Int)) (s1 : ByteArray → (List Int) → Int → Int → Bool → Option ((List ByteArray) × Int)) (s2 : ByteArray → (List Int) → Int → Int → Option ((List ByteArray) × Int)) (s3 : ByteArray → Int → Int → (List ByteArray) → Option ((List ByteArray) × Int)) (s4 : ByteArray → Int → Int → (List ByteArray) → Option ((List ByteArray) × Int)) (s5 : ByteArray → Int → Int → (List ByteArray) → Option ((List ByteArray) × Int)) (x0 : ByteArray) (x1 : Int) (x2 : Int) (x3 : List ByteArray) (ret : ((List ByteArray) × Int) → Option β) : Option β := (bif ((decide ((0 : Int) ≤ x2)) && (decide (x2 < ((ByteArray.size x0) : Int)))) then (bif ((bt x0 x2) != (34 : Int)) then ((s3 x0 x1 (IntKind.wrap IntKind.i64 (x2 + (1 : Int))) x3).bind ret) else ((g21 x0 x2).bind fun r0 => (bif (decide (r0 < (0 : Int))) then (ret ([], (7 : Int))) else ((s3 x0 x1 r0 x3).bind ret)))) else none)
theorem words_Split.c_bind {β : Type} (g21 : ByteArray → Int → Option Int) (s0 : ByteArray → (List Int) → Int → Int → Option ((List ByteArray) × Int)) (s1 : ByteArray → (List Int) → Int → Int → Bool → Option ((List ByteArray) × Int)) (s2 : ByteArray → (List Int) → Int → Int → Option ((List ByteArray) × Int)) (s3 : ByteArray → Int → Int → (List ByteArray) → Option ((List ByteArray) × Int)) (s4 : ByteArray → Int → Int → (List ByteArray) → Option ((List ByteArray) × Int)) (s5 : ByteArray → Int → Int → (List ByteArray) → Option ((List ByteArray) × Int)) (a0 : ByteArray) (ret : ((List ByteArray) × Int) → Option β) : words_Split.c g21 s0 s1 s2 s3 s4 s5 a0 ret = (words_Split.c g21 s0 s1 s2 s3 s4 s5 a0 some).bind ret := by
  simp only [words_Split.c, bif_bind, sum_bind, Option.bind_assoc, Option.bind_some, Option.bind_none, Option.bind_fun_some]
theorem words_Split.s0c_bind {β : Type} (g21 : ByteArray → Int → Option Int) (s0 : ByteArray → (List Int) → Int → Int → Option ((List ByteArray) × Int)) (s1 : ByteArray → (List Int) → Int → Int → Bool → Option ((List ByteArray) × Int)) (s2 : ByteArray → (List Int) → Int → Int → Option ((List ByteArray) × Int)) (s3 : ByteArray → Int → Int → (List ByteArray) → Option ((List ByteArray) × Int)) (s4 : ByteArray → Int → Int → (List ByteArray) → Option ((List ByteArray) × Int)) (s5 : ByteArray → Int → Int → (List ByteArray) → Option ((List ByteArray) × Int)) (x0 : ByteArray) (x1 : List Int) (x2 : Int) (x3 : Int) (ret : ((List ByteArray) × Int) → Option β) : words_Split.s0c g21 s0 s1 s2 s3 s4 s5 x0 x1 x2 x3 ret = (words_Split.s0c g21 s0 s1 s2 s3 s4 s5 x0 x1 x2 x3 some).bind ret := by
  simp only [words_Split.s0c, bif_bind, sum_bind, Option.bind_assoc, Option.bind_some, Option.bind_none, Option.bind_fun_some]
theorem words_Split.s1c_bind {β : Type} (g21 : ByteArray → Int → Option Int) (s0 : ByteArray → (List Int) → Int → Int → Option ((List ByteArray) × Int)) (s1 : ByteArray → (List Int) → Int → Int → Bool → Option ((List ByteArray) × Int)) (s2 : ByteArray → (List Int) → Int → Int → Option ((List ByteArray) × Int)) (s3 : ByteArray → Int → Int → (List ByteArray) → Option ((List ByteArray) × Int)) (s4 : ByteArray → Int → Int → (List ByteArray) → Option ((List ByteArray) × Int)) (s5 : ByteArray → Int → Int → (List ByteArray) → Option ((List ByteArray) × Int)) (x0 : ByteArray) (x1 : List Int) (x2 : Int) (x3 : Int) (x4 : Bool) (ret : ((List ByteArray) × Int) → Option β) : words_Split.s1c g21 s0 s1 s2 s3 s4 s5 x0 x1 x2 x3 x4 ret = (words_Split.s1c g21 s0 s1 s2 s3 s4 s5 x0 x1 x2 x3 x4 some).bind ret := by
  simp only [words_Split.s1c, bif_bind, sum_bind, Option.bind_assoc, Option.bind_some, Option.bind_none, Option.bind_fun_some]
theorem words_Split.s2c_bind {β : Type} (g21 : ByteArray → Int → Option Int) (s0 : ByteArray → (List Int) → Int → Int → Option ((List ByteArray) × Int)) (s1 : ByteArray → (List Int) → Int → Int → Bool → Option ((List ByteArray) × Int)) (s2 : ByteArray → (List Int) → Int → Int → Option ((List ByteArray) × Int)) (s3 : ByteArray → Int → Int → (List ByteArray) → Option ((List ByteArray) × Int)) (s4 : ByteArray → Int → Int → (List ByteArray) → Option ((List ByteArray) × Int)) (s5 : ByteArray → Int → Int → (List ByteArray) → Option ((List ByteArray) × Int)) (x0 : ByteArray) (x1 : List Int) (x2 : Int) (x3 : Int) (ret : ((List ByteArray) × Int) → Option β) : words_Split.s2c g21 s0 s1 s2 s3 s4 s5 x0 x1 x2 x3 ret = (words_Split.s2c g21 s0 s1 s2 s3 s4 s5 x0 x1 x2 x3 some).bind ret := by
  simp only [words_Split.s2c, bif_bind, sum_bind, Option.bind_assoc, Option.bind_some, Option.bind_none, Option.bind_fun_some]
theorem words_Split.s3c_bind {β : Type} (g21 : ByteArray → Int → Option Int) (s0 : ByteArray → (List Int) → Int → Int → Option ((List ByteArray) × Int)) (s1 : ByteArray → (List Int) → Int → Int → Bool → Option ((List ByteArray) × Int)) (s2 : ByteArray → (List Int) → Int → Int → Option ((List ByteArray) × Int)) (s3 : ByteArray → Int → Int → (List ByteArray) → Option ((List ByteArray) × Int)) (s4 : ByteArray → Int → Int → (List ByteArray) → Option ((List ByteArray) × Int)) (s5 : ByteArray → Int → Int → (List ByteArray) → Option ((List ByteArray) × Int)) (x0 : ByteArray) (x1 : Int) (x2 : Int) (x3 : List ByteArray) (ret : ((List ByteArray) × Int) → Option β) : words_Split.s3c g21 s0 s1 s2 s3 s4 s5 x0 x1 x2 x3 ret = (words_Split.s3c g21 s0 s1 s2 s3 s4 s5 x0 x1 x2 x3 some).bind ret := by
  simp only [words_Split.s3c, bif_bind, sum_bind, Option.bind_assoc, Option.bind_some, Option.bind_none, Option.bind_fun_some]
theorem words_Split.s4c_bind {β : Type} (g21 : ByteArray → Int → Option Int) (s0 : ByteArray → (List Int) → Int → Int → Option ((List ByteArray) × Int)) (s1 : ByteArray → (List Int) → Int → Int → Bool → Option ((List ByteArray) × Int)) (s2 : ByteArray → (List Int) → Int → Int → Option ((List ByteArray) × Int)) (s3 : ByteArray → Int → Int → (List ByteArray) → Option ((List ByteArray) × Int)) (s4 : ByteArray → Int → Int → (List ByteArray) → Option ((List ByteArray) × Int)) (s5 : ByteArray → Int → Int → (List ByteArray) → Option ((List ByteArray) × Int)) (x0 : ByteArray) (x1 : Int) (x2 : Int) (x3 : List ByteArray) (ret : ((List ByteArray) × Int) → Option β) : words_Split.s4c g21 s0 s1 s2 s3 s4 s5 x0 x1 x2 x3 ret = (words_Split.s4c g21 s0 s1 s2 s3 s4 s5 x0 x1 x2 x3 some).bind ret := by
  simp only [words_Split.s4c, bif_bind, sum_bind, Option.bind_assoc, Option.bind_some, Option.bind_none, Option.bind_fun_some]
theorem words_Split.s5c_bind {β : Type} (g21 : ByteArray → Int → Option Int) (s0 : ByteArray → (List Int) → Int → Int → Option ((List ByteArray) × Int)) (s1 : ByteArray → (List Int) → Int → Int → Bool → Option ((List ByteArray) × Int)) (s2 : ByteArray → (List Int) → Int → Int → Option ((List ByteArray) × Int)) (s3 : ByteArray → Int → Int → (List ByteArray) → Option ((List ByteArray) × Int)) (s4 : ByteArray → Int → Int → (List ByteArray) → Option ((List ByteArray) × Int)) (s5 : ByteArray → Int → Int → (List ByteArray) → Option ((List ByteArray) × Int)) (x0 : ByteArray) (x1 : Int) (x2 : Int) (x3 : List ByteArray) (ret : ((List ByteArray) × Int) → Option β) : words_Split.s5c g21 s0 s1 s2 s3 s4 s5 x0 x1 x2 x3 ret = (words_Split.s5c g21 s0 s1 s2 s3 s4 s5 x0 x1 x2 x3 some).bind ret := by
  simp only [words_Split.s5c, bif_bind, sum_bind, Option.bind_assoc, Option.bind_some, Option.bind_none, Option.bind_fun_some]
theorem words_Split.ev (g21 : ByteArray → Int → Option Int) (s0 : ByteArray → (List Int) → Int → Int → Option ((List ByteArray) × Int)) (s1 : ByteArray → (List Int) → Int → Int → Bool → Option ((List ByteArray) × Int)) (s2 : ByteArray → (List Int) → Int → Int → Option ((List ByteArray) × Int)) (s3 : ByteArray → Int → Int → (List ByteArray) → Option ((List ByteArray) × Int)) (s4 : ByteArray → Int → Int → (List ByteArray) → Option ((List ByteArray) × Int)) (s5 : ByteArray → Int → Int → (List ByteArray) → Option ((List ByteArray) × Int)) (a0 : ByteArray) : evAt (env_words_Split g21 s0 s1 s2 s3 s4 s5) [] [0] [.v (.one (.d .str a0))] [] some = words_Split.c g21 s0 s1 s2 s3 s4 s5 a0 (fun r => some ⟨.tup [(.one (.d (.sl .str) r.1)), (.one (.d (.int .i64) r.2))], []⟩) := by
  kernel_rfl
theorem words_Split.s0_ev (g21 : ByteArray → Int → Option Int) (s0 : ByteArray → (List Int) → Int → Int → Option ((List ByteArray) × Int)) (s1 : ByteArray → (List Int) → Int → Int → Bool → Option ((List ByteArray) × Int)) (s2 : ByteArray → (List Int) → Int → Int → Option ((List ByteArray) × Int)) (s3 : ByteArray → Int → Int → (List ByteArray) → Option ((List ByteArray) × Int)) (s4 : ByteArray → Int → Int → (List ByteArray) → Option ((List ByteArray) × Int)) (s5 : ByteArray → Int → Int → (List ByteArray) → Option ((List ByteArray) × Int)) (x0 : ByteArray) (x1 : List Int) (x2 : Int) (x3 : Int) : evAt (env_words_Split g21 s0 s1 s2 s3 s4 s5) [4, 1, 0, 1] [0, 10, 11, 12] [.v (.one (.d .str x0)), .v (.one (.d (.sl (.int .u8)) x1)), .v (.one (.d (.int .i64) x2)), .v (.one (.d (.int .i64) x3))] [] some = words_Split.s0c g21 s0 s1 s2 s3 s4 s5 x0 x1 x2 x3 (fun r => some ⟨.tup [(.one (.d (.sl .str) r.1)), (.one (.d (.int .i64) r.2))], []⟩) := by
  kernel_rfl
theorem words_Split.s1_ev (g21 : ByteArray → Int → Option Int) (s0 : ByteArray → (List Int) → Int → Int → Option ((List ByteArray) × Int)) (s1 : ByteArray → (List Int) → Int → Int → Bool → Option ((List ByteArray) × Int)) (s2 : ByteArray → (List Int) → Int → Int → Option ((List ByteArray) × Int)) (s3 : ByteArray → Int → Int → (List ByteArray) → Option ((List ByteArray) × Int)) (s4 : ByteArray → Int → Int → (List ByteArray) → Option ((List ByteArray) × Int)) (s5 : ByteArray → Int → Int → (List ByteArray) → Option ((List ByteArray) × Int)) (x0 : ByteArray) (x1 : List Int) (x2 : Int) (x3 : Int) (x4 : Bool) : evAt (env_words_Split g21 s0 s1 s2 s3 s4 s5) [1, 1, 4, 0, 1, 1, 5, 4, 1, 0, 1] [0, 10, 11, 12, 21] [.v (.one (.d .str x0)), .v (.one (.d (.sl (.int .u8)) x1)), .v (.one (.d (.int .i64) x2)), .v (.one (.d (.int .i64) x3)), .v (.one (.d .bool x4))] [] some = words_Split.s1c g21 s0 s1 s2 s3 s4 s5 x0 x1 x2 x3 x4 (fun r => some ⟨.tup [(.one (.d (.sl .str) r.1)), (.one (.d (.int .i64) r.2))], []⟩) := by
  kernel_rfl
theorem words_Split.s2_ev (g21 : ByteArray → Int → Option Int) (s0 : ByteArray → (List Int) → Int → Int → Option ((List ByteArray) × Int)) (s1 : ByteArray → (List Int) → Int → Int → Bool → Option ((List ByteArray) × Int)) (s2 : ByteArray → (List Int) → Int → Int → Option ((List ByteArray) × Int)) (s3 : ByteArray → Int → Int → (List ByteArray) → Option ((List ByteArray) × Int)) (s4 : ByteArray → Int → Int → (List ByteArray) → Option ((List ByteArray) × Int)) (s5 : ByteArray → Int → Int → (List ByteArray) → Option ((List ByteArray) × Int)) (x0 : ByteArray) (x1 : List Int) (x2 : Int) (x3 : Int) : evAt (env_words_Split g21 s0 s1 s2 s3 s4 s5) [1, 1, 1, 5, 4, 1, 0, 1] [0, 10, 11, 12] [.v (.one (.d .str x0)), .v (.one (.d (.sl (.int .u8)) x1)), .v (.one (.d (.int .i64) x2)), .v (.one (.d (.int .i64) x3))] [] some = words_Split.s2c g21 s0 s1 s2 s3 s4 s5 x0 x1 x2 x3 (fun r => some ⟨.tup [(.one (.d (.sl .str) r.1)), (.one (.d (.int .i64) r.2))], []⟩) := by
  kernel_rfl
theorem words_Split.s3_ev (g21 : ByteArray → Int → Option Int) (s0 : ByteArray → (List Int) → Int → Int → Option ((List ByteArray) × Int)) (s1 : ByteArray → (List Int) → Int → Int → Bool → Option ((List ByteArray) × Int)) (s2 : ByteArray → (List Int) → Int → Int → Option ((List ByteArray) × Int)) (s3 : ByteArray → Int → Int → (List ByteArray) → Option ((List ByteArray) × Int)) (s4 : ByteArray → Int → Int → (List ByteArray) → Option ((List ByteArray) × Int)) (s5 : ByteArray → Int → Int → (List ByteArray) → Option ((List ByteArray) × Int)) (x0 : ByteArray) (x1 : Int) (x2 : Int) (x3 : List ByteArray) : evAt (env_words_Split g21 s0 s1 s2 s3 s4 s5) [4, 1, 0, 1, 1, 1, 1] [0, 6, 7, 8] [.v (.one (.d .str x0)), .v (.one (.own 0)), .v (.one (.d (.int .i64) x1)), .v (.one (.d (.int .i64) x2))] [some (.own .str false x3)] some = words_Split.s3c g21 s0 s1 s2 s3 s4 s5 x0 x1 x2 x3 (fun r => some ⟨.tup [(.one (.d (.sl .str) r.1)), (.one (.d (.int .i64) r.2))], []⟩) := by
  kernel_rfl
theorem words_Split.s4_ev (g21 : ByteArray → Int → Option Int) (s0 : ByteArray → (List Int) → Int → Int → Option ((List ByteArray) × Int)) (s1 : ByteArray → (List Int) → Int → Int → Bool → Option ((List ByteArray) × Int)) (s2 : ByteArray → (List Int) → Int → Int → Option ((List ByteArray) × Int)) (s3 : ByteArray → Int → Int → (List ByteArray) → Option ((List ByteArray) × Int)) (s4 : ByteArray → Int → Int → (List ByteArray) → Option ((List ByteArray) × Int)) (s5 : ByteArray → Int → Int → (List ByteArray) → Option ((List ByteArray) × Int)) (x0 : ByteArray) (x1 : Int) (x2 : Int) (x3 : List ByteArray) : evAt (env_words_Split g21 s0 s1 s2 s3 s4 s5) [1, 2, 1, 4, 0, 4, 1, 5, 4, 1, 0, 1, 1, 1, 1] [0, 6, 7, 8] [.v (.one (.d .str x0)), .v (.one (.own 0)), .v (.one (.d (.int .i64) x1)), .v (.one (.d (.int .i64) x2))] [some (.own .str false x3)] some = words_Split.s4c g21 s0 s1 s2 s3 s4 s5 x0 x1 x2 x3 (fun r => some ⟨.tup [(.one (.d (.sl .str) r.1)), (.one (.d (.int .i64) r.2))], []⟩) := by
  kernel_rfl
theorem words_Split.s5_ev (g21 : ByteArray → Int → Option Int) (s0 : ByteArray → (List Int) → Int → Int → Option ((List ByteArray) × Int)) (s1 : ByteArray → (List Int) → Int → Int → Bool → Option ((List ByteArray) × Int)) (s2 : ByteArray → (List Int) → Int → Int → Option ((List ByteArray) × Int)) (s3 : ByteArray → Int → Int → (List ByteArray) → Option ((List ByteArray) × Int)) (s4 : ByteArray → Int → Int → (List ByteArray) → Option ((List ByteArray) × Int)) (s5 : ByteArray → Int → Int → (List ByteArray) → Option ((List ByteArray) × Int)) (x0 : ByteArray) (x1 : Int) (x2 : Int) (x3 : List ByteArray) : evAt (env_words_Split g21 s0 s1 s2 s3 s4 s5) [1, 4, 1, 5, 4, 1, 0, 1, 1, 1, 1] [0, 6, 7, 8] [.v (.one (.d .str x0)), .v (.one (.own 0)), .v (.one (.d (.int .i64) x1)), .v (.one (.d (.int .i64) x2))] [some (.own .str false x3)] some = words_Split.s5c g21 s0 s1 s2 s3 s4 s5 x0 x1 x2 x3 (fun r => some ⟨.tup [(.one (.d (.sl .str) r.1)), (.one (.d (.int .i64) r.2))], []⟩) := by
  kernel_rfl
mutual
def words_Split.s0 : Nat → ByteArray → (List Int) → Int → Int → Option ((List ByteArray) × Int)
  | 0, _, _, _, _ => none
  | k + 1, x0, x1, x2, x3 => words_Split.s0c (words_quoted.f k) (words_Split.s0 k) (words_Split.s1 k) (words_Split.s2 k) (words_Split.s3 k) (words_Split.s4 k) (words_Split.s5 k) x0 x1 x2 x3 some
def words_Split.s1 : Nat → ByteArray → (List Int) → Int → Int → Bool → Option ((List ByteArray) × Int)
  | 0, _, _, _, _, _ => none
  | k + 1, x0, x1, x2, x3, x4 => words_Split.s1c (words_quoted.f k) (words_Split.s0 k) (words_Split.s1 k) (words_Split.s2 k) (words_Split.s3 k) (words_Split.s4 k) (words_Split.s5 k) x0 x1 x2 x3 x4 some
def words_Split.s2 : Nat → ByteArray → (List Int) → Int → Int → Option ((List ByteArray) × Int)
  | 0, _, _, _, _ => none
  | k + 1, x0, x1, x2, x3 => words_Split.s2c (words_quoted.f k) (words_Split.s0 k) (words_Split.s1 k) (words_Split.s2 k) (words_Split.s3 k) (words_Split.s4 k) (words_Split.s5 k) x0 x1 x2 x3 some
def words_Split.s3 : Nat → ByteArray → Int → Int → (List ByteArray) → Option ((List ByteArray) × Int)
  | 0, _, _, _, _ => none
  | k + 1, x0, x1, x2, x3 => words_Split.s3c (words_quoted.f k) (words_Split.s0 k) (words_Split.s1 k) (words_Split.s2 k) (words_Split.s3 k) (words_Split.s4 k) (words_Split.s5 k) x0 x1 x2 x3 some
def words_Split.s4 : Nat → ByteArray → Int → Int → (List ByteArray) → Option ((List ByteArray) × Int)
  | 0, _, _, _, _ => none
  | k + 1, x0, x1, x2, x3 => words_Split.s4c (words_quoted.f k) (words_Split.s0 k) (words_Split.s1 k) (words_Split.s2 k) (words_Split.s3 k) (words_Split.s4 k) (words_Split.s5 k) x0 x1 x2 x3 some
def words_Split.s5 : Nat → ByteArray → Int → Int → (List ByteArray) → Option ((List ByteArray) × Int)
  | 0, _, _, _, _ => none
  | k + 1, x0, x1, x2, x3 => words_Split.s5c (words_quoted.f k) (words_Split.s0 k) (words_Split.s1 k) (words_Split.s2 k) (words_Split.s3 k) (words_Split.s4 k) (words_Split.s5 k) x0 x1 x2 x3 some
end
def words_Split.f (k : Nat) (a0 : ByteArray) : Option ((List ByteArray) × Int) := words_Split.c (words_quoted.f k) (words_Split.s0 k) (words_Split.s1 k) (words_Split.s2 k) (words_Split.s3 k) (words_Split.s4 k) (words_Split.s5 k) a0 some
theorem words_Split.is (g21 : ByteArray → Int → Option Int) (s0 : ByteArray → (List Int) → Int → Int → Option ((List ByteArray) × Int)) (s1 : ByteArray → (List Int) → Int → Int → Bool → Option ((List ByteArray) × Int)) (s2 : ByteArray → (List Int) → Int → Int → Option ((List ByteArray) × Int)) (s3 : ByteArray → Int → Int → (List ByteArray) → Option ((List ByteArray) × Int)) (s4 : ByteArray → Int → Int → (List ByteArray) → Option ((List ByteArray) × Int)) (s5 : ByteArray → Int → Int → (List ByteArray) → Option ((List ByteArray) × Int)) : FnIs (env_words_Split g21 s0 s1 s2 s3 s4 s5) 8 Go.Proofs.Try.f8 := ⟨Go.Proofs.Try.func8, rfl, rfl, rfl, by decide⟩
theorem words_Split.envok (g21 : ByteArray → Int → Option Int) (s0 : ByteArray → (List Int) → Int → Int → Option ((List ByteArray) × Int)) (s1 : ByteArray → (List Int) → Int → Int → Bool → Option ((List ByteArray) × Int)) (s2 : ByteArray → (List Int) → Int → Int → Option ((List ByteArray) × Int)) (s3 : ByteArray → Int → Int → (List ByteArray) → Option ((List ByteArray) × Int)) (s4 : ByteArray → Int → Int → (List ByteArray) → Option ((List ByteArray) × Int)) (s5 : ByteArray → Int → Int → (List ByteArray) → Option ((List ByteArray) × Int)) (h21 : CtOK Go.Proofs.Try.prog 21 (ct_words_quoted g21)) : EnvOK (env_words_Split g21 s0 s1 s2 s3 s4 s5).toEnv := by
  intro f c h
  simp only [env_words_Split] at h
  split at h
  · rename_i e; subst e; cases h; exact h21
  simp at h
theorem words_Split.segs_ok : ∀ k, ∀ s ∈ (env_words_Split (words_quoted.f k) (words_Split.s0 k) (words_Split.s1 k) (words_Split.s2 k) (words_Split.s3 k) (words_Split.s4 k) (words_Split.s5 k)).segs, SegOK (env_words_Split (words_quoted.f k) (words_Split.s0 k) (words_Split.s1 k) (words_Split.s2 k) (words_Split.s3 k) (words_Split.s4 k) (words_Split.s5 k)) Go.Proofs.Try.f8 s
  | 0 => by
    intro s hs
    simp only [env_words_Split, List.mem_cons, List.not_mem_nil, or_false] at hs
    rcases hs with rfl | rfl | rfl | rfl | rfl | rfl
    · intro tvs blks res h; exfalso; simp only [seg_words_Split_0] at h; split at h <;> simp [words_Split.s0] at h
    · intro tvs blks res h; exfalso; simp only [seg_words_Split_1] at h; split at h <;> simp [words_Split.s1] at h
    · intro tvs blks res h; exfalso; simp only [seg_words_Split_2] at h; split at h <;> simp [words_Split.s2] at h
    · intro tvs blks res h; exfalso; simp only [seg_words_Split_3] at h; split at h <;> simp [words_Split.s3] at h
    · intro tvs blks res h; exfalso; simp only [seg_words_Split_4] at h; split at h <;> simp [words_Split.s4] at h
    · intro tvs blks res h; exfalso; simp only [seg_words_Split_5] at h; split at h <;> simp [words_Split.s5] at h
  | k + 1 => by
    have ih := words_Split.segs_ok k
    intro s hs
    simp only [env_words_Split, List.mem_cons, List.not_mem_nil, or_false] at hs
    rcases hs with rfl | rfl | rfl | rfl | rfl | rfl
    · refine seg_of_ev (E := env_words_Split (words_quoted.f k) (words_Split.s0 k) (words_Split.s1 k) (words_Split.s2 k) (words_Split.s3 k) (words_Split.s4 k) (words_Split.s5 k)) (words_Split.envok _ _ _ _ _ _ _  (words_quoted.ok k)) ⟨(words_Split.is (words_quoted.f k) (words_Split.s0 k) (words_Split.s1 k) (words_Split.s2 k) (words_Split.s3 k) (words_Split.s4 k) (words_Split.s5 k)).rvs⟩ ih ?_
      intro tvs blks res h
      simp only [seg_words_Split_0] at h
      split at h
      · refine (words_Split.s0_ev (words_quoted.f k) (words_Split.s0 k) (words_Split.s1 k) (words_Split.s2 k) (words_Split.s3 k) (words_Split.s4 k) (words_Split.s5 k) _ _ _ _ ).trans ?_
        rw [words_Split.s0c_bind]
        exact h
      · simp at h
    · refine seg_of_ev (E := env_words_Split (words_quoted.f k) (words_Split.s0 k) (words_Split.s1 k) (words_Split.s2 k) (words_Split.s3 k) (words_Split.s4 k) (words_Split.s5 k)) (words_Split.envok _ _ _ _ _ _ _  (words_quoted.ok k)) ⟨(words_Split.is (words_quoted.f k) (words_Split.s0 k) (words_Split.s1 k) (words_Split.s2 k) (words_Split.s3 k) (words_Split.s4 k) (words_Split.s5 k)).rvs⟩ ih ?_
      intro tvs blks res h
      simp only [seg_words_Split_1] at h
      split at h
      · refine (words_Split.s1_ev (words_quoted.f k) (words_Split.s0 k) (words_Split.s1 k) (words_Split.s2 k) (words_Split.s3 k) (words_Split.s4 k) (words_Split.s5 k) _ _ _ _ _ ).trans ?_
        rw [words_Split.s1c_bind]
        exact h
      · simp at h
    · refine seg_of_ev (E := env_words_Split (words_quoted.f k) (words_Split.s0 k) (words_Split.s1 k) (words_Split.s2 k) (words_Split.s3 k) (words_Split.s4 k) (words_Split.s5 k)) (words_Split.envok _ _ _ _ _ _ _  (words_quoted.ok k)) ⟨(words_Split.is (words_quoted.f k) (words_Split.s0 k) (words_Split.s1 k) (words_Split.s2 k) (words_Split.s3 k) (words_Split.s4 k) (words_Split.s5 k)).rvs⟩ ih ?_
      intro tvs blks res h
      simp only [seg_words_Split_2] at h
      split at h
      · refine (words_Split.s2_ev (words_quoted.f k) (words_Split.s0 k) (words_Split.s1 k) (words_Split.s2 k) (words_Split.s3 k) (words_Split.s4 k) (words_Split.s5 k) _ _ _ _ ).trans ?_
        rw [words_Split.s2c_bind]
        exact h
      · simp at h
    · refine seg_of_ev (E := env_words_Split (words_quoted.f k) (words_Split.s0 k) (words_Split.s1 k) (words_Split.s2 k) (words_Split.s3 k) (words_Split.s4 k) (words_Split.s5 k)) (words_Split.envok _ _ _ _ _ _ _  (words_quoted.ok k)) ⟨(words_Split.is (words_quoted.f k) (words_Split.s0 k) (words_Split.s1 k) (words_Split.s2 k) (words_Split.s3 k) (words_Split.s4 k) (words_Split.s5 k)).rvs⟩ ih ?_
      intro tvs blks res h
      simp only [seg_words_Split_3] at h
      split at h
      · refine (words_Split.s3_ev (words_quoted.f k) (words_Split.s0 k) (words_Split.s1 k) (words_Split.s2 k) (words_Split.s3 k) (words_Split.s4 k) (words_Split.s5 k) _ _ _ _ ).trans ?_
        rw [words_Split.s3c_bind]
        exact h
      · simp at h
    · refine seg_of_ev (E := env_words_Split (words_quoted.f k) (words_Split.s0 k) (words_Split.s1 k) (words_Split.s2 k) (words_Split.s3 k) (words_Split.s4 k) (words_Split.s5 k)) (words_Split.envok _ _ _ _ _ _ _  (words_quoted.ok k)) ⟨(words_Split.is (words_quoted.f k) (words_Split.s0 k) (words_Split.s1 k) (words_Split.s2 k) (words_Split.s3 k) (words_Split.s4 k) (words_Split.s5 k)).rvs⟩ ih ?_
      intro tvs blks res h
      simp only [seg_words_Split_4] at h
      split at h
      · refine (words_Split.s4_ev (words_quoted.f k) (words_Split.s0 k) (words_Split.s1 k) (words_Split.s2 k) (words_Split.s3 k) (words_Split.s4 k) (words_Split.s5 k) _ _ _ _ ).trans ?_
        rw [words_Split.s4c_bind]
        exact h
      · simp at h
    · refine seg_of_ev (E := env_words_Split (words_quoted.f k) (words_Split.s0 k) (words_Split.s1 k) (words_Split.s2 k) (words_Split.s3 k) (words_Split.s4 k) (words_Split.s5 k)) (words_Split.envok _ _ _ _ _ _ _  (words_quoted.ok k)) ⟨(words_Split.is (words_quoted.f k) (words_Split.s0 k) (words_Split.s1 k) (words_Split.s2 k) (words_Split.s3 k) (words_Split.s4 k) (words_Split.s5 k)).rvs⟩ ih ?_
      intro tvs blks res h
      simp only [seg_words_Split_5] at h
      split at h
      · refine (words_Split.s5_ev (words_quoted.f k) (words_Split.s0 k) (words_Split.s1 k) (words_Split.s2 k) (words_Split.s3 k) (words_Split.s4 k) (words_Split.s5 k) _ _ _ _ ).trans ?_
        rw [words_Split.s5c_bind]
        exact h
      · simp at h
theorem words_Split.ok (k : Nat) : CtOK Go.Proofs.Try.prog 8 (ct_words_Split (words_Split.f k)) := by
  refine ct_of_ev (E := env_words_Split (words_quoted.f k) (words_Split.s0 k) (words_Split.s1 k) (words_Split.s2 k) (words_Split.s3 k) (words_Split.s4 k) (words_Split.s5 k)) (words_Split.is _ _ _ _ _ _ _ ) (words_Split.envok _ _ _ _ _ _ _  (words_quoted.ok k)) (words_Split.segs_ok k) rfl ?_
  intro tvs blks res h
  simp only [ct_words_Split] at h
  split at h
  · refine (words_Split.ev (words_quoted.f k) (words_Split.s0 k) (words_Split.s1 k) (words_Split.s2 k) (words_Split.s3 k) (words_Split.s4 k) (words_Split.s5 k) _ ).trans ?_
    rw [words_Split.c_bind]
    exact h
  · simp at h
end Go.Proofs.Ytchlbajnmhffpaa.Aev
