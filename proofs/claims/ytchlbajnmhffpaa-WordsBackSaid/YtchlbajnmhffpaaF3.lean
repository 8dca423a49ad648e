/- By a program of this session (AEV): functions of the program as plain functions, and that the machine does what they say. -/
import Derived.Test.YtchlbajnmhffpaaAevW
import Derived.Test.YtchlbajnmhffpaaProg
import Derived.Laws.Externs
import Derived.Lib.Bytealg
namespace Go.Proofs.Ytchlbajnmhffpaa.Aev
set_option linter.unusedVariables false
set_option linter.unusedSimpArgs false
set_option maxRecDepth 100000
set_option maxHeartbeats 4000000
open Go
/-! ### utf_first: function 48 -/
def ct_utf_first (g : Int → Option (Int × Int × Int × Int)) : Ct where
  nin := 0
  mv := []
  F := fun tvs blks {β} K => match tvs, blks with
    | [.v (.one (.d (.int .u8) a0))], [] => (g a0).bind fun r => K ⟨.tup [(.one (.d (.int .i64) r.1)), (.one (.d (.int .i64) r.2.1)), (.one (.d (.int .u8) r.2.2.1)), (.one (.d (.int .u8) r.2.2.2))], []⟩
    | _, _ => none
  legit := fun tvs blks K r h => by
    split at h
    · obtain ⟨x, hx, hk⟩ := Option.bind_eq_some_iff.1 h
      refine ⟨_, ?_, hk⟩
      simp only [hx, Option.bind_some]
    · simp at h
def seg_utf_first_0 (g : Int → Bool → Option (Int × Int × Int × Int)) : Seg where
  path := [1, 3, 1, 4, 0, 1]
  prep := []
  keep := [0, 11]
  F := fun tvs blks {β} K => match tvs, blks with
    | [.v (.one (.d (.int .u8) x0)), .v (.one (.d .bool x1))], [] => (g x0 x1).bind fun r => K ⟨.tup [(.one (.d (.int .i64) r.1)), (.one (.d (.int .i64) r.2.1)), (.one (.d (.int .u8) r.2.2.1)), (.one (.d (.int .u8) r.2.2.2))], []⟩
    | _, _ => none
  legit := fun tvs blks K r h => by
    split at h
    · obtain ⟨x, hx, hk⟩ := Option.bind_eq_some_iff.1 h
      refine ⟨_, ?_, hk⟩
      simp only [hx, Option.bind_some]
    · simp at h
noncomputable def env_utf_first  (s0 : Int → Bool → Option (Int × Int × Int × Int)) : FEnv := { P := Go.Proofs.Try.prog, ct := fun m => none, N := 48, body := Go.Proofs.Try.f48.body.getD .skip, rvs := [.tmp 2, .tmp 3, .tmp 4, .tmp 5], rts := [3, 3, 5, 5], nin := 0, rmv := [], segs := [seg_utf_first_0 s0] }
def utf_first.c {β : Type}  (s0 : Int → Bool → Option (Int × Int × Int × Int)) (a0 : Int) (ret : (Int × Int × Int × Int) → Option β) : Option β := (bif (decide (a0 < (128 : Int))) then (ret ((1 : Int), (IntKind.wrap IntKind.i64 a0), (0 : Int), (0 : Int))) else (bif (decide (a0 < (194 : Int))) then ((s0 a0 true).bind ret) else ((s0 a0 (decide (a0 > (244 : Int)))).bind ret)))
def utf_first.s0c {β : Type}  (s0 : Int → Bool → Option (Int × Int × Int × Int)) (x0 : Int) (x1 : Bool) (ret : (Int × Int × Int × Int) → Option β) : Option β := (bif x1 then (ret ((0 : Int), (0 : Int), (0 : Int), (0 : Int))) else (bif (decide (x0 < (224 : Int))) then (ret ((2 : Int), (IntKind.wrap IntKind.i64 (IntKind.wrap IntKind.u8 ((BitVec.toNat ((BitVec.ofInt (8 : Nat) x0) &&& (BitVec.ofInt (8 : Nat) (31 : Int)))) : Int))), (128 : Int), (191 : Int))) else (bif (x0 == (224 : Int)) then (ret ((3 : Int), (0 : Int), (160 : Int), (191 : Int))) else (bif (x0 == (237 : Int)) then (ret ((3 : Int), (IntKind.wrap IntKind.i64 (IntKind.wrap IntKind.u8 ((BitVec.toNat ((BitVec.ofInt (8 : Nat) x0) &&& (BitVec.ofInt (8 : Nat) (15 : Int)))) : Int))), (128 : Int), (159 : Int))) else (bif (decide (x0 < (240 : Int))) then (ret ((3 : Int), (IntKind.wrap IntKind.i64 (IntKind.wrap IntKind.u8 ((BitVec.toNat ((BitVec.ofInt (8 : Nat) x0) &&& (BitVec.ofInt (8 : Nat) (15 : Int)))) : Int))), (128 : Int), (191 : Int))) else (bif (x0 == (240 : Int)) then (ret ((4 : Int), (0 : Int), (144 : Int), (191 : Int))) else (bif (x0 == (244 : Int)) then (ret ((4 : Int), (4 : Int), (128 : Int), (143 : Int))) else (ret ((4 : Int), (IntKind.wrap IntKind.i64 (IntKind.wrap IntKind.u8 ((BitVec.toNat ((BitVec.ofInt (8 : Nat) x0) &&& (BitVec.ofInt (8 : Nat) (7 : Int)))) : Int))), (128 : Int), (191 : Int))))))))))
theorem utf_first.c_bind {β : Type}  (s0 : Int → Bool → Option (Int × Int × Int × Int)) (a0 : Int) (ret : (Int × Int × Int × Int) → Option β) : utf_first.c  s0 a0 ret = (utf_first.c  s0 a0 some).bind ret := by
  simp only [utf_first.c, bif_bind, sum_bind, Option.bind_assoc, Option.bind_some, Option.bind_none, Option.bind_fun_some]
theorem utf_first.s0c_bind {β : Type}  (s0 : Int → Bool → Option (Int × Int × Int × Int)) (x0 : Int) (x1 : Bool) (ret : (Int × Int × Int × Int) → Option β) : utf_first.s0c  s0 x0 x1 ret = (utf_first.s0c  s0 x0 x1 some).bind ret := by
  simp only [utf_first.s0c, bif_bind, sum_bind, Option.bind_assoc, Option.bind_some, Option.bind_none, Option.bind_fun_some]
theorem utf_first.ev  (s0 : Int → Bool → Option (Int × Int × Int × Int)) (a0 : Int) : evAt (env_utf_first  s0) [] [0] [.v (.one (.d (.int .u8) a0))] [] some = utf_first.c  s0 a0 (fun r => some ⟨.tup [(.one (.d (.int .i64) r.1)), (.one (.d (.int .i64) r.2.1)), (.one (.d (.int .u8) r.2.2.1)), (.one (.d (.int .u8) r.2.2.2))], []⟩) := by
  kernel_rfl
theorem utf_first.s0_ev  (s0 : Int → Bool → Option (Int × Int × Int × Int)) (x0 : Int) (x1 : Bool) : evAt (env_utf_first  s0) [1, 3, 1, 4, 0, 1] [0, 11] [.v (.one (.d (.int .u8) x0)), .v (.one (.d .bool x1))] [] some = utf_first.s0c  s0 x0 x1 (fun r => some ⟨.tup [(.one (.d (.int .i64) r.1)), (.one (.d (.int .i64) r.2.1)), (.one (.d (.int .u8) r.2.2.1)), (.one (.d (.int .u8) r.2.2.2))], []⟩) := by
  kernel_rfl
def utf_first.s0 : Nat → Int → Bool → Option (Int × Int × Int × Int)
  | 0, _, _ => none
  | k + 1, x0, x1 => utf_first.s0c  (utf_first.s0 k) x0 x1 some
def utf_first.f (k : Nat) (a0 : Int) : Option (Int × Int × Int × Int) := utf_first.c  (utf_first.s0 k) a0 some
theorem utf_first.is  (s0 : Int → Bool → Option (Int × Int × Int × Int)) : FnIs (env_utf_first  s0) 48 Go.Proofs.Try.f48 := ⟨Go.Proofs.Try.func48, rfl, rfl, rfl, by decide⟩
theorem utf_first.envok  (s0 : Int → Bool → Option (Int × Int × Int × Int))  : EnvOK (env_utf_first  s0).toEnv := by
  intro f c h
  simp only [env_utf_first] at h
  simp at h
theorem utf_first.segs_ok : ∀ k, ∀ s ∈ (env_utf_first  (utf_first.s0 k)).segs, SegOK (env_utf_first  (utf_first.s0 k)) Go.Proofs.Try.f48 s
  | 0 => by
    intro s hs
    simp only [env_utf_first, List.mem_cons, List.not_mem_nil, or_false] at hs
    rcases hs with rfl
    · intro tvs blks res h; exfalso; simp only [seg_utf_first_0] at h; split at h <;> simp [utf_first.s0] at h
  | k + 1 => by
    have ih := utf_first.segs_ok k
    intro s hs
    simp only [env_utf_first, List.mem_cons, List.not_mem_nil, or_false] at hs
    rcases hs with rfl
    · refine seg_of_ev (E := env_utf_first  (utf_first.s0 k)) (utf_first.envok _  ) ⟨(utf_first.is  (utf_first.s0 k)).rvs⟩ ih ?_
      intro tvs blks res h
      simp only [seg_utf_first_0] at h
      split at h
      · refine (utf_first.s0_ev  (utf_first.s0 k) _ _ ).trans ?_
        rw [utf_first.s0c_bind]
        exact h
      · simp at h
theorem utf_first.ok (k : Nat) : CtOK Go.Proofs.Try.prog 48 (ct_utf_first (utf_first.f k)) := by
  refine ct_of_ev (E := env_utf_first  (utf_first.s0 k)) (utf_first.is _ ) (utf_first.envok _  ) (utf_first.segs_ok k) rfl ?_
  intro tvs blks res h
  simp only [ct_utf_first] at h
  split at h
  · refine (utf_first.ev  (utf_first.s0 k) _ ).trans ?_
    rw [utf_first.c_bind]
    exact h
  · simp at h

/-! ### utf_Next: function 44 -/
def ct_utf_Next (g : ByteArray → Option (Int × Int × Int)) : Ct where
  nin := 0
  mv := []
  F := fun tvs blks {β} K => match tvs, blks with
    | [.v (.one (.d .str a0))], [] => (g a0).bind fun r => K ⟨.tup [(.one (.d (.int .i64) r.1)), (.one (.d (.int .i64) r.2.1)), (.one (.d (.int .i64) r.2.2))], []⟩
    | _, _ => none
  legit := fun tvs blks K r h => by
    split at h
    · obtain ⟨x, hx, hk⟩ := Option.bind_eq_some_iff.1 h
      refine ⟨_, ?_, hk⟩
      simp only [hx, Option.bind_some]
    · simp at h
def seg_utf_Next_0 (g : ByteArray → Int → Int → Int → Int → Int → Int → Option (Int × Int × Int)) : Seg where
  path := [4, 1, 0, 1, 1, 1, 1, 1, 6, 1]
  prep := []
  keep := [0, 5, 6, 7, 8, 9, 10]
  F := fun tvs blks {β} K => match tvs, blks with
    | [.v (.one (.d .str x0)), .v (.one (.d (.int .i64) x1)), .v (.one (.d (.int .i64) x2)), .v (.one (.d (.int .u8) x3)), .v (.one (.d (.int .u8) x4)), .v (.one (.d (.int .i64) x5)), .v (.one (.d (.int .i64) x6))], [] => (g x0 x1 x2 x3 x4 x5 x6).bind fun r => K ⟨.tup [(.one (.d (.int .i64) r.1)), (.one (.d (.int .i64) r.2.1)), (.one (.d (.int .i64) r.2.2))], []⟩
    | _, _ => none
  legit := fun tvs blks K r h => by
    split at h
    · obtain ⟨x, hx, hk⟩ := Option.bind_eq_some_iff.1 h
      refine ⟨_, ?_, hk⟩
      simp only [hx, Option.bind_some]
    · simp at h
def seg_utf_Next_1 (g : ByteArray → Int → Int → Int → Int → Bool → Option (Int × Int × Int)) : Seg where
  path := [1, 3, 1, 4, 0, 4, 0, 1, 5, 4, 1, 0, 1, 1, 1, 1, 1, 6, 1]
  prep := []
  keep := [0, 5, 6, 9, 10, 33]
  F := fun tvs blks {β} K => match tvs, blks with
    | [.v (.one (.d .str x0)), .v (.one (.d (.int .i64) x1)), .v (.one (.d (.int .i64) x2)), .v (.one (.d (.int .i64) x3)), .v (.one (.d (.int .i64) x4)), .v (.one (.d .bool x5))], [] => (g x0 x1 x2 x3 x4 x5).bind fun r => K ⟨.tup [(.one (.d (.int .i64) r.1)), (.one (.d (.int .i64) r.2.1)), (.one (.d (.int .i64) r.2.2))], []⟩
    | _, _ => none
  legit := fun tvs blks K r h => by
    split at h
    · obtain ⟨x, hx, hk⟩ := Option.bind_eq_some_iff.1 h
      refine ⟨_, ?_, hk⟩
      simp only [hx, Option.bind_some]
    · simp at h
def seg_utf_Next_2 (g : ByteArray → Int → Int → Int → Int → Option (Int × Int × Int)) : Seg where
  path := [1, 4, 0, 1, 5, 4, 1, 0, 1, 1, 1, 1, 1, 6, 1]
  prep := []
  keep := [0, 5, 6, 9, 10]
  F := fun tvs blks {β} K => match tvs, blks with
    | [.v (.one (.d .str x0)), .v (.one (.d (.int .i64) x1)), .v (.one (.d (.int .i64) x2)), .v (.one (.d (.int .i64) x3)), .v (.one (.d (.int .i64) x4))], [] => (g x0 x1 x2 x3 x4).bind fun r => K ⟨.tup [(.one (.d (.int .i64) r.1)), (.one (.d (.int .i64) r.2.1)), (.one (.d (.int .i64) r.2.2))], []⟩
    | _, _ => none
  legit := fun tvs blks K r h => by
    split at h
    · obtain ⟨x, hx, hk⟩ := Option.bind_eq_some_iff.1 h
      refine ⟨_, ?_, hk⟩
      simp only [hx, Option.bind_some]
    · simp at h
def seg_utf_Next_3 (g : ByteArray → Int → Int → Int → Int → Int → Int → Option (Int × Int × Int)) : Seg where
  path := [1, 1, 5, 4, 1, 0, 1, 1, 1, 1, 1, 6, 1]
  prep := []
  keep := [0, 5, 6, 7, 8, 9, 10]
  F := fun tvs blks {β} K => match tvs, blks with
    | [.v (.one (.d .str x0)), .v (.one (.d (.int .i64) x1)), .v (.one (.d (.int .i64) x2)), .v (.one (.d (.int .u8) x3)), .v (.one (.d (.int .u8) x4)), .v (.one (.d (.int .i64) x5)), .v (.one (.d (.int .i64) x6))], [] => (g x0 x1 x2 x3 x4 x5 x6).bind fun r => K ⟨.tup [(.one (.d (.int .i64) r.1)), (.one (.d (.int .i64) r.2.1)), (.one (.d (.int .i64) r.2.2))], []⟩
    | _, _ => none
  legit := fun tvs blks K r h => by
    split at h
    · obtain ⟨x, hx, hk⟩ := Option.bind_eq_some_iff.1 h
      refine ⟨_, ?_, hk⟩
      simp only [hx, Option.bind_some]
    · simp at h
noncomputable def env_utf_Next (g48 : Int → Option (Int × Int × Int × Int)) (s0 : ByteArray → Int → Int → Int → Int → Int → Int → Option (Int × Int × Int)) (s1 : ByteArray → Int → Int → Int → Int → Bool → Option (Int × Int × Int)) (s2 : ByteArray → Int → Int → Int → Int → Option (Int × Int × Int)) (s3 : ByteArray → Int → Int → Int → Int → Int → Int → Option (Int × Int × Int)) : FEnv := { P := Go.Proofs.Try.prog, ct := fun m => if m = 48 then some (ct_utf_first g48) else none, N := 59, body := Go.Proofs.Try.f44.body.getD .skip, rvs := [.tmp 2, .tmp 3, .tmp 4], rts := [3, 3, 24], nin := 0, rmv := [], segs := [seg_utf_Next_0 s0, seg_utf_Next_1 s1, seg_utf_Next_2 s2, seg_utf_Next_3 s3] }
def utf_Next.c {β : Type} (g48 : Int → Option (Int × Int × Int × Int)) (s0 : ByteArray → Int → Int → Int → Int → Int → Int → Option (Int × Int × Int)) (s1 : ByteArray → Int → Int → Int → Int → Bool → Option (Int × Int × Int)) (s2 : ByteArray → Int → Int → Int → Int → Option (Int × Int × Int)) (s3 : ByteArray → Int → Int → Int → Int → Int → Int → Option (Int × Int × Int)) (a0 : ByteArray) (ret : (Int × Int × Int) → Option β) : Option β := (bif ((ByteArray.toList a0) == (ByteArray.toList (ByteArray.mk (List.toArray [])))) then (ret ((0 : Int), (0 : Int), (3 : Int))) else (bif (true && (decide ((0 : Int) < ((ByteArray.size a0) : Int)))) then ((g48 (bt a0 (0 : Int))).bind fun r0 => (bif (r0.1 == (0 : Int)) then (ret ((0 : Int), (0 : Int), (7 : Int))) else ((s0 a0 r0.1 r0.2.1 r0.2.2.1 r0.2.2.2 (0 : Int) (1 : Int)).bind ret))) else none))
def utf_Next.s0c {β : Type} (g48 : Int → Option (Int × Int × Int × Int)) (s0 : ByteArray → Int → Int → Int → Int → Int → Int → Option (Int × Int × Int)) (s1 : ByteArray → Int → Int → Int → Int → Bool → Option (Int × Int × Int)) (s2 : ByteArray → Int → Int → Int → Int → Option (Int × Int × Int)) (s3 : ByteArray → Int → Int → Int → Int → Int → Int → Option (Int × Int × Int)) (x0 : ByteArray) (x1 : Int) (x2 : Int) (x3 : Int) (x4 : Int) (x5 : Int) (x6 : Int) (ret : (Int × Int × Int) → Option β) : Option β := (bif (decide (x6 < x1)) then (bif (decide (x6 ≥ ((ByteArray.size x0) : Int))) then (ret ((0 : Int), (0 : Int), (3 : Int))) else (bif ((decide ((0 : Int) ≤ x6)) && (decide (x6 < ((ByteArray.size x0) : Int)))) then (bif (decide ((bt x0 x6) < x3)) then ((s1 x0 x1 x2 x5 x6 true).bind ret) else (bif ((decide ((0 : Int) ≤ x6)) && (decide (x6 < ((ByteArray.size x0) : Int)))) then ((s1 x0 x1 x2 x5 x6 (decide ((bt x0 x6) > x4))).bind ret) else none)) else none)) else (bif (x5 != (0 : Int)) then (ret ((0 : Int), (0 : Int), x5)) else (ret (x2, x1, (0 : Int)))))
def utf_Next.s1c {β : Type} (g48 : Int → Option (Int × Int × Int × Int)) (s0 : ByteArray → Int → Int → Int → Int → Int → Int → Option (Int × Int × Int)) (s1 : ByteArray → Int → Int → Int → Int → Bool → Option (Int × Int × Int)) (s2 : ByteArray → Int → Int → Int → Int → Option (Int × Int × Int)) (s3 : ByteArray → Int → Int → Int → Int → Int → Int → Option (Int × Int × Int)) (x0 : ByteArray) (x1 : Int) (x2 : Int) (x3 : Int) (x4 : Int) (x5 : Bool) (ret : (Int × Int × Int) → Option β) : Option β := (bif x5 then (ret ((0 : Int), (0 : Int), (7 : Int))) else ((s2 x0 x1 x2 x3 x4).bind ret))
def utf_Next.s2c {β : Type} (g48 : Int → Option (Int × Int × Int × Int)) (s0 : ByteArray → Int → Int → Int → Int → Int → Int → Option (Int × Int × Int)) (s1 : ByteArray → Int → Int → Int → Int → Bool → Option (Int × Int × Int)) (s2 : ByteArray → Int → Int → Int → Int → Option (Int × Int × Int)) (s3 : ByteArray → Int → Int → Int → Int → Int → Int → Option (Int × Int × Int)) (x0 : ByteArray) (x1 : Int) (x2 : Int) (x3 : Int) (x4 : Int) (ret : (Int × Int × Int) → Option β) : Option β := (bif ((decide ((0 : Int) ≤ x4)) && (decide (x4 < ((ByteArray.size x0) : Int)))) then ((s3 x0 x1 (IntKind.wrap IntKind.i64 ((BitVec.toNat ((BitVec.ofInt (64 : Nat) (IntKind.wrap IntKind.i64 (x2 * (64 : Int)))) ||| (BitVec.ofInt (64 : Nat) (IntKind.wrap IntKind.i64 (IntKind.wrap IntKind.u8 ((BitVec.toNat ((BitVec.ofInt (8 : Nat) (bt x0 x4)) &&& (BitVec.ofInt (8 : Nat) (63 : Int)))) : Int)))))) : Int)) (128 : Int) (191 : Int) x3 x4).bind ret) else none)
def utf_Next.s3c {β : Type} (g48 : Int → Option (Int × Int × Int × Int)) (s0 : ByteArray → Int → Int → Int → Int → Int → Int → Option (Int × Int × Int)) (s1 : ByteArray → Int → Int → Int → Int → Bool → Option (Int × Int × Int)) (s2 : ByteArray → Int → Int → Int → Int → Option (Int × Int × Int)) (s3 : ByteArray → Int → Int → Int → Int → Int → Int → Option (Int × Int × Int)) (x0 : ByteArray) (x1 : Int) (x2 : Int) (x3 : Int) (x4 : Int) (x5 : Int) (x6 : Int) (ret : (Int × Int × Int) → Option β) : Option β := ((s0 x0 x1 x2 x3 x4 x5 (IntKind.wrap IntKind.i64 (x6 + (1 : Int)))).bind ret)
theorem utf_Next.c_bind {β : Type} (g48 : Int → Option (Int × Int × Int × Int)) (s0 : ByteArray → Int → Int → Int → Int → Int → Int → Option (Int × Int × Int)) (s1 : ByteArray → Int → Int → Int → Int → Bool → Option (Int × Int × Int)) (s2 : ByteArray → Int → Int → Int → Int → Option (Int × Int × Int)) (s3 : ByteArray → Int → Int → Int → Int → Int → Int → Option (Int × Int × Int)) (a0 : ByteArray) (ret : (Int × Int × Int) → Option β) : utf_Next.c g48 s0 s1 s2 s3 a0 ret = (utf_Next.c g48 s0 s1 s2 s3 a0 some).bind ret := by
  simp only [utf_Next.c, bif_bind, sum_bind, Option.bind_assoc, Option.bind_some, Option.bind_none, Option.bind_fun_some]
theorem utf_Next.s0c_bind {β : Type} (g48 : Int → Option (Int × Int × Int × Int)) (s0 : ByteArray → Int → Int → Int → Int → Int → Int → Option (Int × Int × Int)) (s1 : ByteArray → Int → Int → Int → Int → Bool → Option (Int × Int × Int)) (s2 : ByteArray → Int → Int → Int → Int → Option (Int × Int × Int)) (s3 : ByteArray → Int → Int → Int → Int → Int → Int → Option (Int × Int × Int)) (x0 : ByteArray) (x1 : Int) (x2 : Int) (x3 : Int) (x4 : Int) (x5 : Int) (x6 : Int) (ret : (Int × Int × Int) → Option β) : utf_Next.s0c g48 s0 s1 s2 s3 x0 x1 x2 x3 x4 x5 x6 ret = (utf_Next.s0c g48 s0 s1 s2 s3 x0 x1 x2 x3 x4 x5 x6 some).bind ret := by
  simp only [utf_Next.s0c, bif_bind, sum_bind, Option.bind_assoc, Option.bind_some, Option.bind_none, Option.bind_fun_some]
theorem utf_Next.s1c_bind {β : Type} (g48 : Int → Option (Int × Int × Int × Int)) (s0 : ByteArray → Int → Int → Int → Int → Int → Int → Option (Int × Int × Int)) (s1 : ByteArray → Int → Int → Int → Int → Bool → Option (Int × Int × Int)) (s2 : ByteArray → Int → Int → Int → Int → Option (Int × Int × Int)) (s3 : ByteArray → Int → Int → Int → Int → Int → Int → Option (Int × Int × Int)) (x0 : ByteArray) (x1 : Int) (x2 : Int) (x3 : Int) (x4 : Int) (x5 : Bool) (ret : (Int × Int × Int) → Option β) : utf_Next.s1c g48 s0 s1 s2 s3 x0 x1 x2 x3 x4 x5 ret = (utf_Next.s1c g48 s0 s1 s2 s3 x0 x1 x2 x3 x4 x5 some).bind ret := by
  simp only [utf_Next.s1c, bif_bind, sum_bind, Option.bind_assoc, Option.bind_some, Option.bind_none, Option.bind_fun_some]
theorem utf_Next.s2c_bind {β : Type} (g48 : Int → Option (Int × Int × Int × Int)) (s0 : ByteArray → Int → Int → Int → Int → Int → Int → Option (Int × Int × Int)) (s1 : ByteArray → Int → Int → Int → Int → Bool → Option (Int × Int × Int)) (s2 : ByteArray → Int → Int → Int → Int → Option (Int × Int × Int)) (s3 : ByteArray → Int → Int → Int → Int → Int → Int → Option (Int × Int × Int)) (x0 : ByteArray) (x1 : Int) (x2 : Int) (x3 : Int) (x4 : Int) (ret : (Int × Int × Int) → Option β) : utf_Next.s2c g48 s0 s1 s2 s3 x0 x1 x2 x3 x4 ret = (utf_Next.s2c g48 s0 s1 s2 s3 x0 x1 x2 x3 x4 some).bind ret := by
  simp only [utf_Next.s2c, bif_bind, sum_bind, Option.bind_assoc, Option.bind_some, Option.bind_none, Option.bind_fun_some]
theorem utf_Next.s3c_bind {β : Type} (g48 : Int → Option (Int × Int × Int × Int)) (s0 : ByteArray → Int → Int → Int → Int → Int → Int → Option (Int × Int × Int)) (s1 : ByteArray → Int → Int → Int → Int → Bool → Option (Int × Int × Int)) (s2 : ByteArray → Int → Int → Int → Int → Option (Int × Int × Int)) (s3 : ByteArray → Int → Int → Int → Int → Int → Int → Option (Int × Int × Int)) (x0 : ByteArray) (x1 : Int) (x2 : Int) (x3 : Int) (x4 : Int) (x5 : Int) (x6 : Int) (ret : (Int × Int × Int) → Option β) : utf_Next.s3c g48 s0 s1 s2 s3 x0 x1 x2 x3 x4 x5 x6 ret = (utf_Next.s3c g48 s0 s1 s2 s3 x0 x1 x2 x3 x4 x5 x6 some).bind ret := by
  simp only [utf_Next.s3c, bif_bind, sum_bind, Option.bind_assoc, Option.bind_some, Option.bind_none, Option.bind_fun_some]
theorem utf_Next.ev (g48 : Int → Option (Int × Int × Int × Int)) (s0 : ByteArray → Int → Int → Int → Int → Int → Int → Option (Int × Int × Int)) (s1 : ByteArray → Int → Int → Int → Int → Bool → Option (Int × Int × Int)) (s2 : ByteArray → Int → Int → Int → Int → Option (Int × Int × Int)) (s3 : ByteArray → Int → Int → Int → Int → Int → Int → Option (Int × Int × Int)) (a0 : ByteArray) : evAt (env_utf_Next g48 s0 s1 s2 s3) [] [0] [.v (.one (.d .str a0))] [] some = utf_Next.c g48 s0 s1 s2 s3 a0 (fun r => some ⟨.tup [(.one (.d (.int .i64) r.1)), (.one (.d (.int .i64) r.2.1)), (.one (.d (.int .i64) r.2.2))], []⟩) := by
  kernel_rfl
theorem utf_Next.s0_ev (g48 : Int → Option (Int × Int × Int × Int)) (s0 : ByteArray → Int → Int → Int → Int → Int → Int → Option (Int × Int × Int)) (s1 : ByteArray → Int → Int → Int → Int → Bool → Option (Int × Int × Int)) (s2 : ByteArray → Int → Int → Int → Int → Option (Int × Int × Int)) (s3 : ByteArray → Int → Int → Int → Int → Int → Int → Option (Int × Int × Int)) (x0 : ByteArray) (x1 : Int) (x2 : Int) (x3 : Int) (x4 : Int) (x5 : Int) (x6 : Int) : evAt (env_utf_Next g48 s0 s1 s2 s3) [4, 1, 0, 1, 1, 1, 1, 1, 6, 1] [0, 5, 6, 7, 8, 9, 10] [.v (.one (.d .str x0)), .v (.one (.d (.int .i64) x1)), .v (.one (.d (.int .i64) x2)), .v (.one (.d (.int .u8) x3)), .v (.one (.d (.int .u8) x4)), .v (.one (.d (.int .i64) x5)), .v (.one (.d (.int .i64) x6))] [] some = utf_Next.s0c g48 s0 s1 s2 s3 x0 x1 x2 x3 x4 x5 x6 (fun r => some ⟨.tup [(.one (.d (.int .i64) r.1)), (.one (.d (.int .i64) r.2.1)), (.one (.d (.int .i64) r.2.2))], []⟩) := by
  kernel_rfl
theorem utf_Next.s1_ev (g48 : Int → Option (Int × Int × Int × Int)) (s0 : ByteArray → Int → Int → Int → Int → Int → Int → Option (Int × Int × Int)) (s1 : ByteArray → Int → Int → Int → Int → Bool → Option (Int × Int × Int)) (s2 : ByteArray → Int → Int → Int → Int → Option (Int × Int × Int)) (s3 : ByteArray → Int → Int → Int → Int → Int → Int → Option (Int × Int × Int)) (x0 : ByteArray) (x1 : Int) (x2 : Int) (x3 : Int) (x4 : Int) (x5 : Bool) : evAt (env_utf_Next g48 s0 s1 s2 s3) [1, 3, 1, 4, 0, 4, 0, 1, 5, 4, 1, 0, 1, 1, 1, 1, 1, 6, 1] [0, 5, 6, 9, 10, 33] [.v (.one (.d .str x0)), .v (.one (.d (.int .i64) x1)), .v (.one (.d (.int .i64) x2)), .v (.one (.d (.int .i64) x3)), .v (.one (.d (.int .i64) x4)), .v (.one (.d .bool x5))] [] some = utf_Next.s1c g48 s0 s1 s2 s3 x0 x1 x2 x3 x4 x5 (fun r => some ⟨.tup [(.one (.d (.int .i64) r.1)), (.one (.d (.int .i64) r.2.1)), (.one (.d (.int .i64) r.2.2))], []⟩) := by
  kernel_rfl
theorem utf_Next.s2_ev (g48 : Int → Option (Int × Int × Int × Int)) (s0 : ByteArray → Int → Int → Int → Int → Int → Int → Option (Int × Int × Int)) (s1 : ByteArray → Int → Int → Int → Int → Bool → Option (Int × Int × Int)) (s2 : ByteArray → Int → Int → Int → Int → Option (Int × Int × Int)) (s3 : ByteArray → Int → Int → Int → Int → Int → Int → Option (Int × Int × Int)) (x0 : ByteArray) (x1 : Int) (x2 : Int) (x3 : Int) (x4 : Int) : evAt (env_utf_Next g48 s0 s1 s2 s3) [1, 4, 0, 1, 5, 4, 1, 0, 1, 1, 1, 1, 1, 6, 1] [0, 5, 6, 9, 10] [.v (.one (.d .str x0)), .v (.one (.d (.int .i64) x1)), .v (.one (.d (.int .i64) x2)), .v (.one (.d (.int .i64) x3)), .v (.one (.d (.int .i64) x4))] [] some = utf_Next.s2c g48 s0 s1 s2 s3 x0 x1 x2 x3 x4 (fun r => some ⟨.tup [(.one (.d (.int .i64) r.1)), (.one (.d (.int .i64) r.2.1)), (.one (.d (.int .i64) r.2.2))], []⟩) := by
  kernel_rfl
theorem utf_Next.s3_ev (g48 : Int → Option (Int × Int × Int × Int)) (s0 : ByteArray → Int → Int → Int → Int → Int → Int → Option (Int × Int × Int)) (s1 : ByteArray → Int → Int → Int → Int → Bool → Option (Int × Int × Int)) (s2 : ByteArray → Int → Int → Int → Int → Option (Int × Int × Int)) (s3 : ByteArray → Int → Int → Int → Int → Int → Int → Option (Int × Int × Int)) (x0 : ByteArray) (x1 : Int) (x2 : Int) (x3 : Int) (x4 : Int) (x5 : Int) (x6 : Int) : evAt (env_utf_Next g48 s0 s1 s2 s3) [1, 1, 5, 4, 1, 0, 1, 1, 1, 1, 1, 6, 1] [0, 5, 6, 7, 8, 9, 10] [.v (.one (.d .str x0)), .v (.one (.d (.int .i64) x1)), .v (.one (.d (.int .i64) x2)), .v (.one (.d (.int .u8) x3)), .v (.one (.d (.int .u8) x4)), .v (.one (.d (.int .i64) x5)), .v (.one (.d (.int .i64) x6))] [] some = utf_Next.s3c g48 s0 s1 s2 s3 x0 x1 x2 x3 x4 x5 x6 (fun r => some ⟨.tup [(.one (.d (.int .i64) r.1)), (.one (.d (.int .i64) r.2.1)), (.one (.d (.int .i64) r.2.2))], []⟩) := by
  kernel_rfl
mutual
def utf_Next.s0 : Nat → ByteArray → Int → Int → Int → Int → Int → Int → Option (Int × Int × Int)
  | 0, _, _, _, _, _, _, _ => none
  | k + 1, x0, x1, x2, x3, x4, x5, x6 => utf_Next.s0c (utf_first.f k) (utf_Next.s0 k) (utf_Next.s1 k) (utf_Next.s2 k) (utf_Next.s3 k) x0 x1 x2 x3 x4 x5 x6 some
def utf_Next.s1 : Nat → ByteArray → Int → Int → Int → Int → Bool → Option (Int × Int × Int)
  | 0, _, _, _, _, _, _ => none
  | k + 1, x0, x1, x2, x3, x4, x5 => utf_Next.s1c (utf_first.f k) (utf_Next.s0 k) (utf_Next.s1 k) (utf_Next.s2 k) (utf_Next.s3 k) x0 x1 x2 x3 x4 x5 some
def utf_Next.s2 : Nat → ByteArray → Int → Int → Int → Int → Option (Int × Int × Int)
  | 0, _, _, _, _, _ => none
  | k + 1, x0, x1, x2, x3, x4 => utf_Next.s2c (utf_first.f k) (utf_Next.s0 k) (utf_Next.s1 k) (utf_Next.s2 k) (utf_Next.s3 k) x0 x1 x2 x3 x4 some
def utf_Next.s3 : Nat → ByteArray → Int → Int → Int → Int → Int → Int → Option (Int × Int × Int)
  | 0, _, _, _, _, _, _, _ => none
  | k + 1, x0, x1, x2, x3, x4, x5, x6 => utf_Next.s3c (utf_first.f k) (utf_Next.s0 k) (utf_Next.s1 k) (utf_Next.s2 k) (utf_Next.s3 k) x0 x1 x2 x3 x4 x5 x6 some
end
def utf_Next.f (k : Nat) (a0 : ByteArray) : Option (Int × Int × Int) := utf_Next.c (utf_first.f k) (utf_Next.s0 k) (utf_Next.s1 k) (utf_Next.s2 k) (utf_Next.s3 k) a0 some
theorem utf_Next.is (g48 : Int → Option (Int × Int × Int × Int)) (s0 : ByteArray → Int → Int → Int → Int → Int → Int → Option (Int × Int × Int)) (s1 : ByteArray → Int → Int → Int → Int → Bool → Option (Int × Int × Int)) (s2 : ByteArray → Int → Int → Int → Int → Option (Int × Int × Int)) (s3 : ByteArray → Int → Int → Int → Int → Int → Int → Option (Int × Int × Int)) : FnIs (env_utf_Next g48 s0 s1 s2 s3) 44 Go.Proofs.Try.f44 := ⟨Go.Proofs.Try.func44, rfl, rfl, rfl, by decide⟩
theorem utf_Next.envok (g48 : Int → Option (Int × Int × Int × Int)) (s0 : ByteArray → Int → Int → Int → Int → Int → Int → Option (Int × Int × Int)) (s1 : ByteArray → Int → Int → Int → Int → Bool → Option (Int × Int × Int)) (s2 : ByteArray → Int → Int → Int → Int → Option (Int × Int × Int)) (s3 : ByteArray → Int → Int → Int → Int → Int → Int → Option (Int × Int × Int)) (h48 : CtOK Go.Proofs.Try.prog 48 (ct_utf_first g48)) : EnvOK (env_utf_Next g48 s0 s1 s2 s3).toEnv := by
  intro f c h
  simp only [env_utf_Next] at h
  split at h
  · rename_i e; subst e; cases h; exact h48
  simp at h
theorem utf_Next.segs_ok : ∀ k, ∀ s ∈ (env_utf_Next (utf_first.f k) (utf_Next.s0 k) (utf_Next.s1 k) (utf_Next.s2 k) (utf_Next.s3 k)).segs, SegOK (env_utf_Next (utf_first.f k) (utf_Next.s0 k) (utf_Next.s1 k) (utf_Next.s2 k) (utf_Next.s3 k)) Go.Proofs.Try.f44 s
  | 0 => by
    intro s hs
    simp only [env_utf_Next, List.mem_cons, List.not_mem_nil, or_false] at hs
    rcases hs with rfl | rfl | rfl | rfl
    · intro tvs blks res h; exfalso; simp only [seg_utf_Next_0] at h; split at h <;> simp [utf_Next.s0] at h
    · intro tvs blks res h; exfalso; simp only [seg_utf_Next_1] at h; split at h <;> simp [utf_Next.s1] at h
    · intro tvs blks res h; exfalso; simp only [seg_utf_Next_2] at h; split at h <;> simp [utf_Next.s2] at h
    · intro tvs blks res h; exfalso; simp only [seg_utf_Next_3] at h; split at h <;> simp [utf_Next.s3] at h
  | k + 1 => by
    have ih := utf_Next.segs_ok k
    intro s hs
    simp only [env_utf_Next, List.mem_cons, List.not_mem_nil, or_false] at hs
    rcases hs with rfl | rfl | rfl | rfl
    · refine seg_of_ev (E := env_utf_Next (utf_first.f k) (utf_Next.s0 k) (utf_Next.s1 k) (utf_Next.s2 k) (utf_Next.s3 k)) (utf_Next.envok _ _ _ _ _  (utf_first.ok k)) ⟨(utf_Next.is (utf_first.f k) (utf_Next.s0 k) (utf_Next.s1 k) (utf_Next.s2 k) (utf_Next.s3 k)).rvs⟩ ih ?_
      intro tvs blks res h
      simp only [seg_utf_Next_0] at h
      split at h
      · refine (utf_Next.s0_ev (utf_first.f k) (utf_Next.s0 k) (utf_Next.s1 k) (utf_Next.s2 k) (utf_Next.s3 k) _ _ _ _ _ _ _ ).trans ?_
        rw [utf_Next.s0c_bind]
        exact h
      · simp at h
    · refine seg_of_ev (E := env_utf_Next (utf_first.f k) (utf_Next.s0 k) (utf_Next.s1 k) (utf_Next.s2 k) (utf_Next.s3 k)) (utf_Next.envok _ _ _ _ _  (utf_first.ok k)) ⟨(utf_Next.is (utf_first.f k) (utf_Next.s0 k) (utf_Next.s1 k) (utf_Next.s2 k) (utf_Next.s3 k)).rvs⟩ ih ?_
      intro tvs blks res h
      simp only [seg_utf_Next_1] at h
      split at h
      · refine (utf_Next.s1_ev (utf_first.f k) (utf_Next.s0 k) (utf_Next.s1 k) (utf_Next.s2 k) (utf_Next.s3 k) _ _ _ _ _ _ ).trans ?_
        rw [utf_Next.s1c_bind]
        exact h
      · simp at h
    · refine seg_of_ev (E := env_utf_Next (utf_first.f k) (utf_Next.s0 k) (utf_Next.s1 k) (utf_Next.s2 k) (utf_Next.s3 k)) (utf_Next.envok _ _ _ _ _  (utf_first.ok k)) ⟨(utf_Next.is (utf_first.f k) (utf_Next.s0 k) (utf_Next.s1 k) (utf_Next.s2 k) (utf_Next.s3 k)).rvs⟩ ih ?_
      intro tvs blks res h
      simp only [seg_utf_Next_2] at h
      split at h
      · refine (utf_Next.s2_ev (utf_first.f k) (utf_Next.s0 k) (utf_Next.s1 k) (utf_Next.s2 k) (utf_Next.s3 k) _ _ _ _ _ ).trans ?_
        rw [utf_Next.s2c_bind]
        exact h
      · simp at h
    · refine seg_of_ev (E := env_utf_Next (utf_first.f k) (utf_Next.s0 k) (utf_Next.s1 k) (utf_Next.s2 k) (utf_Next.s3 k)) (utf_Next.envok _ _ _ _ _  (utf_first.ok k)) ⟨(utf_Next.is (utf_first.f k) (utf_Next.s0 k) (utf_Next.s1 k) (utf_Next.s2 k) (utf_Next.s3 k)).rvs⟩ ih ?_
      intro tvs blks res h
      simp only [seg_utf_Next_3] at h
      split at h
      · refine (utf_Next.s3_ev (utf_first.f k) (utf_Next.s0 k) (utf_Next.s1 k) (utf_Next.s2 k) (utf_Next.s3 k) _ _ _ _ _ _ _ ).trans ?_
        rw [utf_Next.s3c_bind]
        exact h
      · simp at h
theorem utf_Next.ok (k : Nat) : CtOK Go.Proofs.Try.prog 44 (ct_utf_Next (utf_Next.f k)) := by
  refine ct_of_ev (E := env_utf_Next (utf_first.f k) (utf_Next.s0 k) (utf_Next.s1 k) (utf_Next.s2 k) (utf_Next.s3 k)) (utf_Next.is _ _ _ _ _ ) (utf_Next.envok _ _ _ _ _  (utf_first.ok k)) (utf_Next.segs_ok k) rfl ?_
  intro tvs blks res h
  simp only [ct_utf_Next] at h
  split at h
  · refine (utf_Next.ev (utf_first.f k) (utf_Next.s0 k) (utf_Next.s1 k) (utf_Next.s2 k) (utf_Next.s3 k) _ ).trans ?_
    rw [utf_Next.c_bind]
    exact h
  · simp at h

/-! ### utf_Count: function 40 -/
def ct_utf_Count (g : ByteArray → Option Int) : Ct where
  nin := 0
  mv := []
  F := fun tvs blks {β} K => match tvs, blks with
    | [.v (.one (.d .str a0))], [] => (g a0).bind fun r => K ⟨.v (.one (.d (.int .i64) r)), []⟩
    | _, _ => none
  legit := fun tvs blks K r h => by
    split at h
    · obtain ⟨x, hx, hk⟩ := Option.bind_eq_some_iff.1 h
      refine ⟨_, ?_, hk⟩
      simp only [hx, Option.bind_some]
    · simp at h
def seg_utf_Count_0 (g : ByteArray → Int → Option Int) : Seg where
  path := [4, 0, 1, 1]
  prep := []
  keep := [0, 3]
  F := fun tvs blks {β} K => match tvs, blks with
    | [.v (.one (.d .str x0)), .v (.one (.d (.int .i64) x1))], [] => (g x0 x1).bind fun r => K ⟨.v (.one (.d (.int .i64) r)), []⟩
    | _, _ => none
  legit := fun tvs blks K r h => by
    split at h
    · obtain ⟨x, hx, hk⟩ := Option.bind_eq_some_iff.1 h
      refine ⟨_, ?_, hk⟩
      simp only [hx, Option.bind_some]
    · simp at h
noncomputable def env_utf_Count (g44 : ByteArray → Option (Int × Int × Int)) (s0 : ByteArray → Int → Option Int) : FEnv := { P := Go.Proofs.Try.prog, ct := fun m => if m = 44 then some (ct_utf_Next g44) else none, N := 23, body := Go.Proofs.Try.f40.body.getD .skip, rvs := [.tmp 2], rts := [3], nin := 0, rmv := [], segs := [seg_utf_Count_0 s0] }
def utf_Count.c {β : Type} (g44 : ByteArray → Option (Int × Int × Int)) (s0 : ByteArray → Int → Option Int) (a0 : ByteArray) (ret : Int → Option β) : Option β := ((s0 a0 (0 : Int)).bind ret)
def utf_Count.s0c {β : Type} (g44 : ByteArray → Option (Int × Int × Int)) (s0 : ByteArray → Int → Option Int) (x0 : ByteArray) (x1 : Int) (ret : Int → Option β) : Option β := (bif (!((ByteArray.toList x0) == (ByteArray.toList (ByteArray.mk (List.toArray []))))) then ((g44 x0).bind fun r0 => (bif (r0.2.2 != (0 : Int)) then (ret ((-1 : Int))) else (bif (((decide ((0 : Int) ≤ r0.2.1)) && (decide (r0.2.1 ≤ ((ByteArray.size x0) : Int)))) && (decide (((ByteArray.size x0) : Int) ≤ ((ByteArray.size x0) : Int)))) then ((s0 (ByteArray.extract x0 (Int.toNat r0.2.1) (Int.toNat ((ByteArray.size x0) : Int))) (IntKind.wrap IntKind.i64 (x1 + (1 : Int)))).bind ret) else none))) else (ret (x1)))
theorem utf_Count.c_bind {β : Type} (g44 : ByteArray → Option (Int × Int × Int)) (s0 : ByteArray → Int → Option Int) (a0 : ByteArray) (ret : Int → Option β) : utf_Count.c g44 s0 a0 ret = (utf_Count.c g44 s0 a0 some).bind ret := by
  simp only [utf_Count.c, bif_bind, sum_bind, Option.bind_assoc, Option.bind_some, Option.bind_none, Option.bind_fun_some]
theorem utf_Count.s0c_bind {β : Type} (g44 : ByteArray → Option (Int × Int × Int)) (s0 : ByteArray → Int → Option Int) (x0 : ByteArray) (x1 : Int) (ret : Int → Option β) : utf_Count.s0c g44 s0 x0 x1 ret = (utf_Count.s0c g44 s0 x0 x1 some).bind ret := by
  simp only [utf_Count.s0c, bif_bind, sum_bind, Option.bind_assoc, Option.bind_some, Option.bind_none, Option.bind_fun_some]
theorem utf_Count.ev (g44 : ByteArray → Option (Int × Int × Int)) (s0 : ByteArray → Int → Option Int) (a0 : ByteArray) : evAt (env_utf_Count g44 s0) [] [0] [.v (.one (.d .str a0))] [] some = utf_Count.c g44 s0 a0 (fun r => some ⟨.v (.one (.d (.int .i64) r)), []⟩) := by
  kernel_rfl
theorem utf_Count.s0_ev (g44 : ByteArray → Option (Int × Int × Int)) (s0 : ByteArray → Int → Option Int) (x0 : ByteArray) (x1 : Int) : evAt (env_utf_Count g44 s0) [4, 0, 1, 1] [0, 3] [.v (.one (.d .str x0)), .v (.one (.d (.int .i64) x1))] [] some = utf_Count.s0c g44 s0 x0 x1 (fun r => some ⟨.v (.one (.d (.int .i64) r)), []⟩) := by
  kernel_rfl
def utf_Count.s0 : Nat → ByteArray → Int → Option Int
  | 0, _, _ => none
  | k + 1, x0, x1 => utf_Count.s0c (utf_Next.f k) (utf_Count.s0 k) x0 x1 some
def utf_Count.f (k : Nat) (a0 : ByteArray) : Option Int := utf_Count.c (utf_Next.f k) (utf_Count.s0 k) a0 some
theorem utf_Count.is (g44 : ByteArray → Option (Int × Int × Int)) (s0 : ByteArray → Int → Option Int) : FnIs (env_utf_Count g44 s0) 40 Go.Proofs.Try.f40 := ⟨Go.Proofs.Try.func40, rfl, rfl, rfl, by decide⟩
theorem utf_Count.envok (g44 : ByteArray → Option (Int × Int × Int)) (s0 : ByteArray → Int → Option Int) (h44 : CtOK Go.Proofs.Try.prog 44 (ct_utf_Next g44)) : EnvOK (env_utf_Count g44 s0).toEnv := by
  intro f c h
  simp only [env_utf_Count] at h
  split at h
  · rename_i e; subst e; cases h; exact h44
  simp at h
theorem utf_Count.segs_ok : ∀ k, ∀ s ∈ (env_utf_Count (utf_Next.f k) (utf_Count.s0 k)).segs, SegOK (env_utf_Count (utf_Next.f k) (utf_Count.s0 k)) Go.Proofs.Try.f40 s
  | 0 => by
    intro s hs
    simp only [env_utf_Count, List.mem_cons, List.not_mem_nil, or_false] at hs
    rcases hs with rfl
    · intro tvs blks res h; exfalso; simp only [seg_utf_Count_0] at h; split at h <;> simp [utf_Count.s0] at h
  | k + 1 => by
    have ih := utf_Count.segs_ok k
    intro s hs
    simp only [env_utf_Count, List.mem_cons, List.not_mem_nil, or_false] at hs
    rcases hs with rfl
    · refine seg_of_ev (E := env_utf_Count (utf_Next.f k) (utf_Count.s0 k)) (utf_Count.envok _ _  (utf_Next.ok k)) ⟨(utf_Count.is (utf_Next.f k) (utf_Count.s0 k)).rvs⟩ ih ?_
      intro tvs blks res h
      simp only [seg_utf_Count_0] at h
      split at h
      · refine (utf_Count.s0_ev (utf_Next.f k) (utf_Count.s0 k) _ _ ).trans ?_
        rw [utf_Count.s0c_bind]
        exact h
      · simp at h
theorem utf_Count.ok (k : Nat) : CtOK Go.Proofs.Try.prog 40 (ct_utf_Count (utf_Count.f k)) := by
  refine ct_of_ev (E := env_utf_Count (utf_Next.f k) (utf_Count.s0 k)) (utf_Count.is _ _ ) (utf_Count.envok _ _  (utf_Next.ok k)) (utf_Count.segs_ok k) rfl ?_
  intro tvs blks res h
  simp only [ct_utf_Count] at h
  split at h
  · refine (utf_Count.ev (utf_Next.f k) (utf_Count.s0 k) _ ).trans ?_
    rw [utf_Count.c_bind]
    exact h
  · simp at h

/-! ### utf_Valid: function 33 -/
def ct_utf_Valid (g : ByteArray → Option Bool) : Ct where
  nin := 0
  mv := []
  F := fun tvs blks {β} K => match tvs, blks with
    | [.v (.one (.d .str a0))], [] => (g a0).bind fun r => K ⟨.v (.one (.d .bool r)), []⟩
    | _, _ => none
  legit := fun tvs blks K r h => by
    split at h
    · obtain ⟨x, hx, hk⟩ := Option.bind_eq_some_iff.1 h
      refine ⟨_, ?_, hk⟩
      simp only [hx, Option.bind_some]
    · simp at h
noncomputable def env_utf_Valid (g40 : ByteArray → Option Int)  : FEnv := { P := Go.Proofs.Try.prog, ct := fun m => if m = 40 then some (ct_utf_Count g40) else none, N := 6, body := Go.Proofs.Try.f33.body.getD .skip, rvs := [.tmp 2], rts := [4], nin := 0, rmv := [], segs := [] }
def utf_Valid.c {β : Type} (g40 : ByteArray → Option Int)  (a0 : ByteArray) (ret : Bool → Option β) : Option β := ((g40 a0).bind fun r0 => (ret ((decide (r0 ≥ (0 : Int))))))
theorem utf_Valid.c_bind {β : Type} (g40 : ByteArray → Option Int)  (a0 : ByteArray) (ret : Bool → Option β) : utf_Valid.c g40  a0 ret = (utf_Valid.c g40  a0 some).bind ret := by
  simp only [utf_Valid.c, bif_bind, sum_bind, Option.bind_assoc, Option.bind_some, Option.bind_none, Option.bind_fun_some]
theorem utf_Valid.ev (g40 : ByteArray → Option Int)  (a0 : ByteArray) : evAt (env_utf_Valid g40 ) [] [0] [.v (.one (.d .str a0))] [] some = utf_Valid.c g40  a0 (fun r => some ⟨.v (.one (.d .bool r)), []⟩) := by
  kernel_rfl
def utf_Valid.f (k : Nat) (a0 : ByteArray) : Option Bool := utf_Valid.c (utf_Count.f k)  a0 some
theorem utf_Valid.is (g40 : ByteArray → Option Int)  : FnIs (env_utf_Valid g40 ) 33 Go.Proofs.Try.f33 := ⟨Go.Proofs.Try.func33, rfl, rfl, rfl, by decide⟩
theorem utf_Valid.envok (g40 : ByteArray → Option Int)  (h40 : CtOK Go.Proofs.Try.prog 40 (ct_utf_Count g40)) : EnvOK (env_utf_Valid g40 ).toEnv := by
  intro f c h
  simp only [env_utf_Valid] at h
  split at h
  · rename_i e; subst e; cases h; exact h40
  simp at h
theorem utf_Valid.ok (k : Nat) : CtOK Go.Proofs.Try.prog 33 (ct_utf_Valid (utf_Valid.f k)) := by
  refine ct_of_ev (E := env_utf_Valid (utf_Count.f k) ) (utf_Valid.is _ ) (utf_Valid.envok _  (utf_Count.ok k)) (fun s hs => by simp [env_utf_Valid] at hs) rfl ?_
  intro tvs blks res h
  simp only [ct_utf_Valid] at h
  split at h
  · refine (utf_Valid.ev (utf_Count.f k)  _ ).trans ?_
    rw [utf_Valid.c_bind]
    exact h
  · simp at h
end Go.Proofs.Ytchlbajnmhffpaa.Aev
