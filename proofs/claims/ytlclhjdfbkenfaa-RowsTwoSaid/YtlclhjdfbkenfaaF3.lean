/- By a program of this session (AEV): functions of the program as plain functions, and that the machine does what they say. -/
import Derived.Test.YtlclhjdfbkenfaaAevW
import Derived.Test.YtlclhjdfbkenfaaProg
import Derived.Laws.Externs
import Derived.Lib.Bytealg
import Derived.Test.YtlclhjdfbkenfaaF2
namespace Go.Proofs.Ytlclhjdfbkenfaa.Aev
set_option linter.unusedVariables false
set_option linter.unusedSimpArgs false
set_option maxRecDepth 100000
set_option maxHeartbeats 4000000
open Go
/-! ### rows_reader_fail: function 48 -/
def ct_rows_reader_fail (g : Int → ByteArray → Int → Option (ByteArray × Int)) : Ct where
  nin := 1
  mv := []
  F := fun tvs blks {β} K => match tvs, blks with
    | [.v (.one (.ptr 0 0)), .v (.one (.d (.int .i64) a0))], [.box [(.d .str a1), (.d (.int .i64) a2)]] => (g a0 a1 a2).bind fun r => K ⟨.tup [], [some (.box [(.d .str r.1), (.d (.int .i64) r.2)])]⟩
    | _, _ => none
  legit := fun tvs blks K r h => by
    split at h
    · obtain ⟨x, hx, hk⟩ := Option.bind_eq_some_iff.1 h
      refine ⟨_, ?_, hk⟩
      simp only [hx, Option.bind_some]
    · simp at h
noncomputable def env_rows_reader_fail   : FEnv := { P := Go.Proofs.Try.prog, ct := fun m => none, N := 13, body := Go.Proofs.Try.f48.body.getD .skip, rvs := [], rts := [], nin := 1, rmv := [], segs := [] }
def rows_reader_fail.c {β : Type}   (a0 : Int) (a1 : ByteArray) (a2 : Int) (ret : (ByteArray × Int) → Option β) : Option β := (bif (a2 == (0 : Int)) then (ret (a1, a0)) else (ret (a1, a2)))
theorem rows_reader_fail.c_bind {β : Type}   (a0 : Int) (a1 : ByteArray) (a2 : Int) (ret : (ByteArray × Int) → Option β) : rows_reader_fail.c   a0 a1 a2 ret = (rows_reader_fail.c   a0 a1 a2 some).bind ret := by
  simp only [rows_reader_fail.c, bif_bind, sum_bind, Option.bind_assoc, Option.bind_some, Option.bind_none, Option.bind_fun_some]
theorem rows_reader_fail.ev   (a0 : Int) (a1 : ByteArray) (a2 : Int) : evAt (env_rows_reader_fail  ) [] [0, 1] [.v (.one (.ptr 0 0)), .v (.one (.d (.int .i64) a0))] [some (.box [(.d .str a1), (.d (.int .i64) a2)])] some = rows_reader_fail.c   a0 a1 a2 (fun r => some ⟨.tup [], [some (.box [(.d .str r.1), (.d (.int .i64) r.2)])]⟩) := by
  kernel_rfl
def rows_reader_fail.f (k : Nat) (a0 : Int) (a1 : ByteArray) (a2 : Int) : Option (ByteArray × Int) := rows_reader_fail.c   a0 a1 a2 some
theorem rows_reader_fail.is   : FnIs (env_rows_reader_fail  ) 48 Go.Proofs.Try.f48 := ⟨Go.Proofs.Try.func48, rfl, rfl, rfl, by decide⟩
theorem rows_reader_fail.envok    : EnvOK (env_rows_reader_fail  ).toEnv := by
  intro f c h
  simp only [env_rows_reader_fail] at h
  simp at h
theorem rows_reader_fail.ok (k : Nat) : CtOK Go.Proofs.Try.prog 48 (ct_rows_reader_fail (rows_reader_fail.f k)) := by
  refine ct_of_ev (E := env_rows_reader_fail  ) (rows_reader_fail.is ) (rows_reader_fail.envok  ) (fun s hs => by simp [env_rows_reader_fail] at hs) rfl ?_
  intro tvs blks res h
  simp only [ct_rows_reader_fail] at h
  split at h
  · refine (rows_reader_fail.ev   _ _ _ ).trans ?_
    rw [rows_reader_fail.c_bind]
    exact h
  · simp at h

/-! ### rows_reader_take: function 47 -/
def ct_rows_reader_take (g : Int → ByteArray → Int → Option (ByteArray × ByteArray × Int)) : Ct where
  nin := 1
  mv := []
  F := fun tvs blks {β} K => match tvs, blks with
    | [.v (.one (.ptr 0 0)), .v (.one (.d (.int .i64) a0))], [.box [(.d .str a1), (.d (.int .i64) a2)]] => (g a0 a1 a2).bind fun r => K ⟨.v (.one (.d .str r.1)), [some (.box [(.d .str r.2.1), (.d (.int .i64) r.2.2)])]⟩
    | _, _ => none
  legit := fun tvs blks K r h => by
    split at h
    · obtain ⟨x, hx, hk⟩ := Option.bind_eq_some_iff.1 h
      refine ⟨_, ?_, hk⟩
      simp only [hx, Option.bind_some]
    · simp at h
def seg_rows_reader_take_0 (g : Int → Bool → ByteArray → Int → Option (ByteArray × ByteArray × Int)) : Seg where
  path := [1, 0, 1]
  prep := []
  keep := [0, 1, 19]
  F := fun tvs blks {β} K => match tvs, blks with
    | [.v (.one (.ptr 0 0)), .v (.one (.d (.int .i64) x0)), .v (.one (.d .bool x1))], [some (.box [(.d .str x2), (.d (.int .i64) x3)])] => (g x0 x1 x2 x3).bind fun r => K ⟨.v (.one (.d .str r.1)), [some (.box [(.d .str r.2.1), (.d (.int .i64) r.2.2)])]⟩
    | _, _ => none
  legit := fun tvs blks K r h => by
    split at h
    · obtain ⟨x, hx, hk⟩ := Option.bind_eq_some_iff.1 h
      refine ⟨_, ?_, hk⟩
      simp only [hx, Option.bind_some]
    · simp at h
def seg_rows_reader_take_1 (g : Int → ByteArray → Int → Option (ByteArray × ByteArray × Int)) : Seg where
  path := [1, 1]
  prep := []
  keep := [0, 1]
  F := fun tvs blks {β} K => match tvs, blks with
    | [.v (.one (.ptr 0 0)), .v (.one (.d (.int .i64) x0))], [some (.box [(.d .str x1), (.d (.int .i64) x2)])] => (g x0 x1 x2).bind fun r => K ⟨.v (.one (.d .str r.1)), [some (.box [(.d .str r.2.1), (.d (.int .i64) r.2.2)])]⟩
    | _, _ => none
  legit := fun tvs blks K r h => by
    split at h
    · obtain ⟨x, hx, hk⟩ := Option.bind_eq_some_iff.1 h
      refine ⟨_, ?_, hk⟩
      simp only [hx, Option.bind_some]
    · simp at h
noncomputable def env_rows_reader_take (g48 : Int → ByteArray → Int → Option (ByteArray × Int)) (s0 : Int → Bool → ByteArray → Int → Option (ByteArray × ByteArray × Int)) (s1 : Int → ByteArray → Int → Option (ByteArray × ByteArray × Int)) : FEnv := { P := Go.Proofs.Try.prog, ct := fun m => if m = 48 then some (ct_rows_reader_fail g48) else none, N := 38, body := Go.Proofs.Try.f47.body.getD .skip, rvs := [.tmp 4], rts := [9], nin := 1, rmv := [], segs := [seg_rows_reader_take_0 s0, seg_rows_reader_take_1 s1] }
def rows_reader_take.c {β : Type} (g48 : Int → ByteArray → Int → Option (ByteArray × Int)) (s0 : Int → Bool → ByteArray → Int → Option (ByteArray × ByteArray × Int)) (s1 : Int → ByteArray → Int → Option (ByteArray × ByteArray × Int)) (a0 : Int) (a1 : ByteArray) (a2 : Int) (ret : (ByteArray × ByteArray × Int) → Option β) : Option β := (bif (a2 != (0 : Int)) then ((s0 a0 true a1 a2).bind ret) else ((s0 a0 (decide (((ByteArray.size a1) : Int) < a0)) a1 a2).bind ret))
def rows_reader_take.s0c {β : Type} (g48 : Int → ByteArray → Int → Option (ByteArray × Int)) (s0 : Int → Bool → ByteArray → Int → Option (ByteArray × ByteArray × Int)) (s1 : Int → ByteArray → Int → Option (ByteArray × ByteArray × Int)) (x0 : Int) (x1 : Bool) (x2 : ByteArray) (x3 : Int) (ret : (ByteArray × ByteArray × Int) → Option β) : Option β := (bif x1 then ((g48 (3 : Int) x2 x3).bind fun r0 => (ret ((ByteArray.mk (List.toArray [])), r0.1, r0.2))) else ((s1 x0 x2 x3).bind ret))
def rows_reader_take.s1c {β : Type} (g48 : Int → ByteArray → Int → Option (ByteArray × Int)) (s0 : Int → Bool → ByteArray → Int → Option (ByteArray × ByteArray × Int)) (s1 : Int → ByteArray → Int → Option (ByteArray × ByteArray × Int)) (x0 : Int) (x1 : ByteArray) (x2 : Int) (ret : (ByteArray × ByteArray × Int) → Option β) : Option β := (bif ((true && (decide ((0 : Int) ≤ x0))) && (decide (x0 ≤ ((ByteArray.size x1) : Int)))) then (bif (((decide ((0 : Int) ≤ x0)) && (decide (x0 ≤ ((ByteArray.size x1) : Int)))) && (decide (((ByteArray.size x1) : Int) ≤ ((ByteArray.size x1) : Int)))) then (ret ((ByteArray.extract x1 (0 : Nat) (Int.toNat x0)), (ByteArray.extract x1 (Int.toNat x0) (Int.toNat ((ByteArray.size x1) : Int))), x2)) else none) else none)
theorem rows_reader_take.c_bind {β : Type} (g48 : Int → ByteArray → Int → Option (ByteArray × Int)) (s0 : Int → Bool → ByteArray → Int → Option (ByteArray × ByteArray × Int)) (s1 : Int → ByteArray → Int → Option (ByteArray × ByteArray × Int)) (a0 : Int) (a1 : ByteArray) (a2 : Int) (ret : (ByteArray × ByteArray × Int) → Option β) : rows_reader_take.c g48 s0 s1 a0 a1 a2 ret = (rows_reader_take.c g48 s0 s1 a0 a1 a2 some).bind ret := by
  simp only [rows_reader_take.c, bif_bind, sum_bind, Option.bind_assoc, Option.bind_some, Option.bind_none, Option.bind_fun_some]
theorem rows_reader_take.s0c_bind {β : Type} (g48 : Int → ByteArray → Int → Option (ByteArray × Int)) (s0 : Int → Bool → ByteArray → Int → Option (ByteArray × ByteArray × Int)) (s1 : Int → ByteArray → Int → Option (ByteArray × ByteArray × Int)) (x0 : Int) (x1 : Bool) (x2 : ByteArray) (x3 : Int) (ret : (ByteArray × ByteArray × Int) → Option β) : rows_reader_take.s0c g48 s0 s1 x0 x1 x2 x3 ret = (rows_reader_take.s0c g48 s0 s1 x0 x1 x2 x3 some).bind ret := by
  simp only [rows_reader_take.s0c, bif_bind, sum_bind, Option.bind_assoc, Option.bind_some, Option.bind_none, Option.bind_fun_some]
theorem rows_reader_take.s1c_bind {β : Type} (g48 : Int → ByteArray → Int → Option (ByteArray × Int)) (s0 : Int → Bool → ByteArray → Int → Option (ByteArray × ByteArray × Int)) (s1 : Int → ByteArray → Int → Option (ByteArray × ByteArray × Int)) (x0 : Int) (x1 : ByteArray) (x2 : Int) (ret : (ByteArray × ByteArray × Int) → Option β) : rows_reader_take.s1c g48 s0 s1 x0 x1 x2 ret = (rows_reader_take.s1c g48 s0 s1 x0 x1 x2 some).bind ret := by
  simp only [rows_reader_take.s1c, bif_bind, sum_bind, Option.bind_assoc, Option.bind_some, Option.bind_none, Option.bind_fun_some]
theorem rows_reader_take.ev (g48 : Int → ByteArray → Int → Option (ByteArray × Int)) (s0 : Int → Bool → ByteArray → Int → Option (ByteArray × ByteArray × Int)) (s1 : Int → ByteArray → Int → Option (ByteArray × ByteArray × Int)) (a0 : Int) (a1 : ByteArray) (a2 : Int) : evAt (env_rows_reader_take g48 s0 s1) [] [0, 1] [.v (.one (.ptr 0 0)), .v (.one (.d (.int .i64) a0))] [some (.box [(.d .str a1), (.d (.int .i64) a2)])] some = rows_reader_take.c g48 s0 s1 a0 a1 a2 (fun r => some ⟨.v (.one (.d .str r.1)), [some (.box [(.d .str r.2.1), (.d (.int .i64) r.2.2)])]⟩) := by
  kernel_rfl
theorem rows_reader_take.s0_ev (g48 : Int → ByteArray → Int → Option (ByteArray × Int)) (s0 : Int → Bool → ByteArray → Int → Option (ByteArray × ByteArray × Int)) (s1 : Int → ByteArray → Int → Option (ByteArray × ByteArray × Int)) (x0 : Int) (x1 : Bool) (x2 : ByteArray) (x3 : Int) : evAt (env_rows_reader_take g48 s0 s1) [1, 0, 1] [0, 1, 19] [.v (.one (.ptr 0 0)), .v (.one (.d (.int .i64) x0)), .v (.one (.d .bool x1))] [some (.box [(.d .str x2), (.d (.int .i64) x3)])] some = rows_reader_take.s0c g48 s0 s1 x0 x1 x2 x3 (fun r => some ⟨.v (.one (.d .str r.1)), [some (.box [(.d .str r.2.1), (.d (.int .i64) r.2.2)])]⟩) := by
  kernel_rfl
theorem rows_reader_take.s1_ev (g48 : Int → ByteArray → Int → Option (ByteArray × Int)) (s0 : Int → Bool → ByteArray → Int → Option (ByteArray × ByteArray × Int)) (s1 : Int → ByteArray → Int → Option (ByteArray × ByteArray × Int)) (x0 : Int) (x1 : ByteArray) (x2 : Int) : evAt (env_rows_reader_take g48 s0 s1) [1, 1] [0, 1] [.v (.one (.ptr 0 0)), .v (.one (.d (.int .i64) x0))] [some (.box [(.d .str x1), (.d (.int .i64) x2)])] some = rows_reader_take.s1c g48 s0 s1 x0 x1 x2 (fun r => some ⟨.v (.one (.d .str r.1)), [some (.box [(.d .str r.2.1), (.d (.int .i64) r.2.2)])]⟩) := by
  kernel_rfl
mutual
def rows_reader_take.s0 : Nat → Int → Bool → ByteArray → Int → Option (ByteArray × ByteArray × Int)
  | 0, _, _, _, _ => none
  | k + 1, x0, x1, x2, x3 => rows_reader_take.s0c (rows_reader_fail.f k) (rows_reader_take.s0 k) (rows_reader_take.s1 k) x0 x1 x2 x3 some
def rows_reader_take.s1 : Nat → Int → ByteArray → Int → Option (ByteArray × ByteArray × Int)
  | 0, _, _, _ => none
  | k + 1, x0, x1, x2 => rows_reader_take.s1c (rows_reader_fail.f k) (rows_reader_take.s0 k) (rows_reader_take.s1 k) x0 x1 x2 some
end
def rows_reader_take.f (k : Nat) (a0 : Int) (a1 : ByteArray) (a2 : Int) : Option (ByteArray × ByteArray × Int) := rows_reader_take.c (rows_reader_fail.f k) (rows_reader_take.s0 k) (rows_reader_take.s1 k) a0 a1 a2 some
theorem rows_reader_take.is (g48 : Int → ByteArray → Int → Option (ByteArray × Int)) (s0 : Int → Bool → ByteArray → Int → Option (ByteArray × ByteArray × Int)) (s1 : Int → ByteArray → Int → Option (ByteArray × ByteArray × Int)) : FnIs (env_rows_reader_take g48 s0 s1) 47 Go.Proofs.Try.f47 := ⟨Go.Proofs.Try.func47, rfl, rfl, rfl, by decide⟩
theorem rows_reader_take.envok (g48 : Int → ByteArray → Int → Option (ByteArray × Int)) (s0 : Int → Bool → ByteArray → Int → Option (ByteArray × ByteArray × Int)) (s1 : Int → ByteArray → Int → Option (ByteArray × ByteArray × Int)) (h48 : CtOK Go.Proofs.Try.prog 48 (ct_rows_reader_fail g48)) : EnvOK (env_rows_reader_take g48 s0 s1).toEnv := by
  intro f c h
  simp only [env_rows_reader_take] at h
  split at h
  · rename_i e; subst e; cases h; exact h48
  simp at h
theorem rows_reader_take.segs_ok : ∀ k, ∀ s ∈ (env_rows_reader_take (rows_reader_fail.f k) (rows_reader_take.s0 k) (rows_reader_take.s1 k)).segs, SegOK (env_rows_reader_take (rows_reader_fail.f k) (rows_reader_take.s0 k) (rows_reader_take.s1 k)) Go.Proofs.Try.f47 s
  | 0 => by
    intro s hs
    simp only [env_rows_reader_take, List.mem_cons, List.not_mem_nil, or_false] at hs
    rcases hs with rfl | rfl
    · intro tvs blks res h; exfalso; simp only [seg_rows_reader_take_0] at h; split at h <;> simp [rows_reader_take.s0] at h
    · intro tvs blks res h; exfalso; simp only [seg_rows_reader_take_1] at h; split at h <;> simp [rows_reader_take.s1] at h
  | k + 1 => by
    have ih := rows_reader_take.segs_ok k
    intro s hs
    simp only [env_rows_reader_take, List.mem_cons, List.not_mem_nil, or_false] at hs
    rcases hs with rfl | rfl
    · refine seg_of_ev (E := env_rows_reader_take (rows_reader_fail.f k) (rows_reader_take.s0 k) (rows_reader_take.s1 k)) (rows_reader_take.envok _ _ _  (rows_reader_fail.ok k)) ⟨(rows_reader_take.is (rows_reader_fail.f k) (rows_reader_take.s0 k) (rows_reader_take.s1 k)).rvs⟩ ih ?_
      intro tvs blks res h
      simp only [seg_rows_reader_take_0] at h
      split at h
      · refine (rows_reader_take.s0_ev (rows_reader_fail.f k) (rows_reader_take.s0 k) (rows_reader_take.s1 k) _ _ _ _ ).trans ?_
        rw [rows_reader_take.s0c_bind]
        exact h
      · simp at h
    · refine seg_of_ev (E := env_rows_reader_take (rows_reader_fail.f k) (rows_reader_take.s0 k) (rows_reader_take.s1 k)) (rows_reader_take.envok _ _ _  (rows_reader_fail.ok k)) ⟨(rows_reader_take.is (rows_reader_fail.f k) (rows_reader_take.s0 k) (rows_reader_take.s1 k)).rvs⟩ ih ?_
      intro tvs blks res h
      simp only [seg_rows_reader_take_1] at h
      split at h
      · refine (rows_reader_take.s1_ev (rows_reader_fail.f k) (rows_reader_take.s0 k) (rows_reader_take.s1 k) _ _ _ ).trans ?_
        rw [rows_reader_take.s1c_bind]
        exact h
      · simp at h
theorem rows_reader_take.ok (k : Nat) : CtOK Go.Proofs.Try.prog 47 (ct_rows_reader_take (rows_reader_take.f k)) := by
  refine ct_of_ev (E := env_rows_reader_take (rows_reader_fail.f k) (rows_reader_take.s0 k) (rows_reader_take.s1 k)) (rows_reader_take.is _ _ _ ) (rows_reader_take.envok _ _ _  (rows_reader_fail.ok k)) (rows_reader_take.segs_ok k) rfl ?_
  intro tvs blks res h
  simp only [ct_rows_reader_take] at h
  split at h
  · refine (rows_reader_take.ev (rows_reader_fail.f k) (rows_reader_take.s0 k) (rows_reader_take.s1 k) _ _ _ ).trans ?_
    rw [rows_reader_take.c_bind]
    exact h
  · simp at h

/-! ### pack_ReadInt: function 49 -/
def ct_pack_ReadInt (g : ByteArray → Option (Int × ByteArray × Int)) : Ct where
  nin := 0
  mv := []
  F := fun tvs blks {β} K => match tvs, blks with
    | [.v (.one (.d .str a0))], [] => (g a0).bind fun r => K ⟨.tup [(.one (.d (.int .i64) r.1)), (.one (.d .str r.2.1)), (.one (.d (.int .i64) r.2.2))], []⟩
    | _, _ => none
  legit := fun tvs blks K r h => by
    split at h
    · obtain ⟨x, hx, hk⟩ := Option.bind_eq_some_iff.1 h
      refine ⟨_, ?_, hk⟩
      simp only [hx, Option.bind_some]
    · simp at h
noncomputable def env_pack_ReadInt (g27 : ByteArray → Option (Int × ByteArray × Int))  : FEnv := { P := Go.Proofs.Try.prog, ct := fun m => if m = 27 then some (ct_pack_ReadUint g27) else none, N := 26, body := Go.Proofs.Try.f49.body.getD .skip, rvs := [.tmp 2, .tmp 3, .tmp 4], rts := [3, 9, 25], nin := 0, rmv := [], segs := [] }
def pack_ReadInt.c {β : Type} (g27 : ByteArray → Option (Int × ByteArray × Int))  (a0 : ByteArray) (ret : (Int × ByteArray × Int) → Option β) : Option β := ((g27 a0).bind fun r0 => (bif (r0.2.2 != (0 : Int)) then (ret ((0 : Int), (ByteArray.mk (List.toArray [])), r0.2.2)) else (ret ((IntKind.wrap IntKind.i64 ((BitVec.toNat ((BitVec.ofInt (64 : Nat) (IntKind.wrap IntKind.i64 (Int.fdiv r0.1 (2 : Int)))) ^^^ (BitVec.ofInt (64 : Nat) (IntKind.wrap IntKind.i64 ((0 : Int) - (IntKind.wrap IntKind.i64 (IntKind.wrap IntKind.u64 ((BitVec.toNat ((BitVec.ofInt (64 : Nat) r0.1) &&& (BitVec.ofInt (64 : Nat) (1 : Int)))) : Int)))))))) : Int)), r0.2.1, (0 : Int)))))
theorem pack_ReadInt.c_bind {β : Type} (g27 : ByteArray → Option (Int × ByteArray × Int))  (a0 : ByteArray) (ret : (Int × ByteArray × Int) → Option β) : pack_ReadInt.c g27  a0 ret = (pack_ReadInt.c g27  a0 some).bind ret := by
  simp only [pack_ReadInt.c, bif_bind, sum_bind, Option.bind_assoc, Option.bind_some, Option.bind_none, Option.bind_fun_some]
theorem pack_ReadInt.ev (g27 : ByteArray → Option (Int × ByteArray × Int))  (a0 : ByteArray) : evAt (env_pack_ReadInt g27 ) [] [0] [.v (.one (.d .str a0))] [] some = pack_ReadInt.c g27  a0 (fun r => some ⟨.tup [(.one (.d (.int .i64) r.1)), (.one (.d .str r.2.1)), (.one (.d (.int .i64) r.2.2))], []⟩) := by
  kernel_rfl
def pack_ReadInt.f (k : Nat) (a0 : ByteArray) : Option (Int × ByteArray × Int) := pack_ReadInt.c (pack_ReadUint.f k)  a0 some
theorem pack_ReadInt.is (g27 : ByteArray → Option (Int × ByteArray × Int))  : FnIs (env_pack_ReadInt g27 ) 49 Go.Proofs.Try.f49 := ⟨Go.Proofs.Try.func49, rfl, rfl, rfl, by decide⟩
theorem pack_ReadInt.envok (g27 : ByteArray → Option (Int × ByteArray × Int))  (h27 : CtOK Go.Proofs.Try.prog 27 (ct_pack_ReadUint g27)) : EnvOK (env_pack_ReadInt g27 ).toEnv := by
  intro f c h
  simp only [env_pack_ReadInt] at h
  split at h
  · rename_i e; subst e; cases h; exact h27
  simp at h
theorem pack_ReadInt.ok (k : Nat) : CtOK Go.Proofs.Try.prog 49 (ct_pack_ReadInt (pack_ReadInt.f k)) := by
  refine ct_of_ev (E := env_pack_ReadInt (pack_ReadUint.f k) ) (pack_ReadInt.is _ ) (pack_ReadInt.envok _  (pack_ReadUint.ok k)) (fun s hs => by simp [env_pack_ReadInt] at hs) rfl ?_
  intro tvs blks res h
  simp only [ct_pack_ReadInt] at h
  split at h
  · refine (pack_ReadInt.ev (pack_ReadUint.f k)  _ ).trans ?_
    rw [pack_ReadInt.c_bind]
    exact h
  · simp at h

/-! ### pack_ReadText: function 50 -/
def ct_pack_ReadText (g : ByteArray → Option (ByteArray × ByteArray × Int)) : Ct where
  nin := 0
  mv := []
  F := fun tvs blks {β} K => match tvs, blks with
    | [.v (.one (.d .str a0))], [] => (g a0).bind fun r => K ⟨.tup [(.one (.d .str r.1)), (.one (.d .str r.2.1)), (.one (.d (.int .i64) r.2.2))], []⟩
    | _, _ => none
  legit := fun tvs blks K r h => by
    split at h
    · obtain ⟨x, hx, hk⟩ := Option.bind_eq_some_iff.1 h
      refine ⟨_, ?_, hk⟩
      simp only [hx, Option.bind_some]
    · simp at h
noncomputable def env_pack_ReadText (g27 : ByteArray → Option (Int × ByteArray × Int))  : FEnv := { P := Go.Proofs.Try.prog, ct := fun m => if m = 27 then some (ct_pack_ReadUint g27) else none, N := 30, body := Go.Proofs.Try.f50.body.getD .skip, rvs := [.tmp 2, .tmp 3, .tmp 4], rts := [9, 9, 25], nin := 0, rmv := [], segs := [] }
def pack_ReadText.c {β : Type} (g27 : ByteArray → Option (Int × ByteArray × Int))  (a0 : ByteArray) (ret : (ByteArray × ByteArray × Int) → Option β) : Option β := ((g27 a0).bind fun r0 => (bif (r0.2.2 != (0 : Int)) then (ret ((ByteArray.mk (List.toArray [])), (ByteArray.mk (List.toArray [])), r0.2.2)) else (bif (decide (r0.1 > (IntKind.wrap IntKind.u64 ((ByteArray.size r0.2.1) : Int)))) then (ret ((ByteArray.mk (List.toArray [])), (ByteArray.mk (List.toArray [])), (3 : Int))) else (bif ((true && (decide ((0 : Int) ≤ r0.1))) && (decide (r0.1 ≤ ((ByteArray.size r0.2.1) : Int)))) then (bif (((decide ((0 : Int) ≤ r0.1)) && (decide (r0.1 ≤ ((ByteArray.size r0.2.1) : Int)))) && (decide (((ByteArray.size r0.2.1) : Int) ≤ ((ByteArray.size r0.2.1) : Int)))) then (ret ((ByteArray.extract r0.2.1 (0 : Nat) (Int.toNat r0.1)), (ByteArray.extract r0.2.1 (Int.toNat r0.1) (Int.toNat ((ByteArray.size r0.2.1) : Int))), (0 : Int))) else none) else none))))
theorem pack_ReadText.c_bind {β : Type} (g27 : ByteArray → Option (Int × ByteArray × Int))  (a0 : ByteArray) (ret : (ByteArray × ByteArray × Int) → Option β) : pack_ReadText.c g27  a0 ret = (pack_ReadText.c g27  a0 some).bind ret := by
  simp only [pack_ReadText.c, bif_bind, sum_bind, Option.bind_assoc, Option.bind_some, Option.bind_none, Option.bind_fun_some]
theorem pack_ReadText.ev (g27 : ByteArray → Option (Int × ByteArray × Int))  (a0 : ByteArray) : evAt (env_pack_ReadText g27 ) [] [0] [.v (.one (.d .str a0))] [] some = pack_ReadText.c g27  a0 (fun r => some ⟨.tup [(.one (.d .str r.1)), (.one (.d .str r.2.1)), (.one (.d (.int .i64) r.2.2))], []⟩) := by
  kernel_rfl
def pack_ReadText.f (k : Nat) (a0 : ByteArray) : Option (ByteArray × ByteArray × Int) := pack_ReadText.c (pack_ReadUint.f k)  a0 some
theorem pack_ReadText.is (g27 : ByteArray → Option (Int × ByteArray × Int))  : FnIs (env_pack_ReadText g27 ) 50 Go.Proofs.Try.f50 := ⟨Go.Proofs.Try.func50, rfl, rfl, rfl, by decide⟩
theorem pack_ReadText.envok (g27 : ByteArray → Option (Int × ByteArray × Int))  (h27 : CtOK Go.Proofs.Try.prog 27 (ct_pack_ReadUint g27)) : EnvOK (env_pack_ReadText g27 ).toEnv := by
  intro f c h
  simp only [env_pack_ReadText] at h
  split at h
  · rename_i e; subst e; cases h; exact h27
  simp at h
theorem pack_ReadText.ok (k : Nat) : CtOK Go.Proofs.Try.prog 50 (ct_pack_ReadText (pack_ReadText.f k)) := by
  refine ct_of_ev (E := env_pack_ReadText (pack_ReadUint.f k) ) (pack_ReadText.is _ ) (pack_ReadText.envok _  (pack_ReadUint.ok k)) (fun s hs => by simp [env_pack_ReadText] at hs) rfl ?_
  intro tvs blks res h
  simp only [ct_pack_ReadText] at h
  split at h
  · refine (pack_ReadText.ev (pack_ReadUint.f k)  _ ).trans ?_
    rw [pack_ReadText.c_bind]
    exact h
  · simp at h
end Go.Proofs.Ytlclhjdfbkenfaa.Aev
