/- By a program of this session (AEV): functions of the program as plain functions, and that the machine does what they say. -/
import Derived.Test.YtlclhjdfbkenfaaAevW
import Derived.Test.YtlclhjdfbkenfaaProg
import Derived.Laws.Externs
import Derived.Lib.Bytealg
import Derived.Test.YtlclhjdfbkenfaaF11
import Derived.Test.YtlclhjdfbkenfaaF14
namespace Go.Proofs.Ytlclhjdfbkenfaa.Aev
set_option linter.unusedVariables false
set_option linter.unusedSimpArgs false
set_option maxRecDepth 100000
set_option maxHeartbeats 4000000
open Go
/-! ### transomref06_value: function 30 -/
def ct_transomref06_value (g : ByteArray → Option (Int × Int × Int × ByteArray × ByteArray × Int)) : Ct where
  nin := 0
  mv := []
  F := fun tvs blks {β} K => match tvs, blks with
    | [.v (.one (.d .str a0))], [] => (g a0).bind fun r => K ⟨.tup [(.agg [(.d (.int .i64) r.1), (.d (.int .i64) r.2.1), (.d (.int .u64) r.2.2.1), (.d .str r.2.2.2.1)]), (.one (.d .str r.2.2.2.2.1)), (.one (.d (.int .i64) r.2.2.2.2.2))], []⟩
    | _, _ => none
  legit := fun tvs blks K r h => by
    split at h
    · obtain ⟨x, hx, hk⟩ := Option.bind_eq_some_iff.1 h
      refine ⟨_, ?_, hk⟩
      simp only [hx, Option.bind_some]
    · simp at h
def seg_transomref06_value_0 (g : ByteArray → Bool → Int → Int → Int → ByteArray → Int → Int → Int → ByteArray → Option (Int × Int × Int × ByteArray × ByteArray × Int)) : Seg where
  path := [1, 3, 1, 3, 1, 3, 1, 3, 1, 4, 1, 0, 1, 1, 1, 1, 1]
  prep := []
  keep := [0, 2, 5, 65]
  F := fun tvs blks {β} K => match tvs, blks with
    | [.v (.one (.d .str x0)), .v (.one (.ptr 0 0)), .v (.one (.ptr 1 0)), .v (.one (.d .bool x1))], [some (.box [(.d (.int .i64) x2), (.d (.int .i64) x3), (.d (.int .u64) x4), (.d .str x5)]), some (.box [(.d (.int .i64) x6), (.d (.int .i64) x7), (.d (.int .u64) x8), (.d .str x9)])] => (g x0 x1 x2 x3 x4 x5 x6 x7 x8 x9).bind fun r => K ⟨.tup [(.agg [(.d (.int .i64) r.1), (.d (.int .i64) r.2.1), (.d (.int .u64) r.2.2.1), (.d .str r.2.2.2.1)]), (.one (.d .str r.2.2.2.2.1)), (.one (.d (.int .i64) r.2.2.2.2.2))], []⟩
    | _, _ => none
  legit := fun tvs blks K r h => by
    split at h
    · obtain ⟨x, hx, hk⟩ := Option.bind_eq_some_iff.1 h
      refine ⟨_, ?_, hk⟩
      simp only [hx, Option.bind_some]
    · simp at h
noncomputable def env_transomref06_value (g25 : Int → Int → Int → ByteArray → Option Int) (g51 : ByteArray → Option (Int × ByteArray × Int)) (g52 : ByteArray → Option Int) (g53 : ByteArray → Option (ByteArray × ByteArray × Int)) (s0 : ByteArray → Bool → Int → Int → Int → ByteArray → Int → Int → Int → ByteArray → Option (Int × Int × Int × ByteArray × ByteArray × Int)) : FEnv := { P := Go.Proofs.Try.prog, ct := fun m => if m = 25 then some (ct_transomref04_Check g25) else if m = 51 then some (ct_transomref03_ReadInt g51) else if m = 52 then some (ct_transomref05_Number g52) else if m = 53 then some (ct_transomref03_ReadText g53) else none, N := 85, body := Go.Proofs.Try.f30.body.getD .skip, rvs := [.cell 2 45, .tmp 3, .tmp 4], rts := [45, 9, 3], nin := 0, rmv := [], segs := [seg_transomref06_value_0 s0] }
def transomref06_value.c {β : Type} (g25 : Int → Int → Int → ByteArray → Option Int) (g51 : ByteArray → Option (Int × ByteArray × Int)) (g52 : ByteArray → Option Int) (g53 : ByteArray → Option (ByteArray × ByteArray × Int)) (s0 : ByteArray → Bool → Int → Int → Int → ByteArray → Int → Int → Int → ByteArray → Option (Int × Int × Int × ByteArray × ByteArray × Int)) (a0 : ByteArray) (ret : (Int × Int × Int × ByteArray × ByteArray × Int) → Option β) : Option β := (bif (((ByteArray.size a0) : Int) == (0 : Int)) then (ret ((0 : Int), (0 : Int), (0 : Int), (ByteArray.mk (List.toArray [])), (ByteArray.mk (List.toArray [])), (3 : Int))) else (bif (true && (decide ((0 : Int) < ((ByteArray.size a0) : Int)))) then (bif ((true && (decide ((1 : Int) ≤ ((ByteArray.size a0) : Int)))) && (decide (((ByteArray.size a0) : Int) ≤ ((ByteArray.size a0) : Int)))) then (bif ((IntKind.wrap IntKind.i64 (bt a0 (0 : Int))) == (0 : Int)) then ((g25 (IntKind.wrap IntKind.i64 (bt a0 (0 : Int))) (0 : Int) (0 : Int) (ByteArray.mk (List.toArray []))).bind fun r0 => (ret ((IntKind.wrap IntKind.i64 (bt a0 (0 : Int))), (0 : Int), (0 : Int), (ByteArray.mk (List.toArray [])), (ByteArray.extract a0 (1 : Nat) (Int.toNat ((ByteArray.size a0) : Int))), r0))) else (bif ((IntKind.wrap IntKind.i64 (bt a0 (0 : Int))) == (1 : Int)) then (bif (((ByteArray.size (ByteArray.extract a0 (1 : Nat) (Int.toNat ((ByteArray.size a0) : Int)))) : Int) == (0 : Int)) then (ret ((IntKind.wrap IntKind.i64 (bt a0 (0 : Int))), (0 : Int), (0 : Int), (ByteArray.mk (List.toArray [])), (ByteArray.mk (List.toArray [])), (3 : Int))) else (bif (true && (decide ((0 : Int) < ((ByteArray.size (ByteArray.extract a0 (1 : Nat) (Int.toNat ((ByteArray.size a0) : Int)))) : Int)))) then (bif ((true && (decide ((1 : Int) ≤ ((ByteArray.size (ByteArray.extract a0 (1 : Nat) (Int.toNat ((ByteArray.size a0) : Int)))) : Int)))) && (decide (((ByteArray.size (ByteArray.extract a0 (1 : Nat) (Int.toNat ((ByteArray.size a0) : Int)))) : Int) ≤ ((ByteArray.size (ByteArray.extract a0 (1 : Nat) (Int.toNat ((ByteArray.size a0) : Int)))) : Int)))) then (bif (decide ((IntKind.wrap IntKind.i64 (bt (ByteArray.extract a0 (1 : Nat) (Int.toNat ((ByteArray.size a0) : Int))) (0 : Int))) > (1 : Int))) then (ret ((IntKind.wrap IntKind.i64 (bt a0 (0 : Int))), (IntKind.wrap IntKind.i64 (bt (ByteArray.extract a0 (1 : Nat) (Int.toNat ((ByteArray.size a0) : Int))) (0 : Int))), (0 : Int), (ByteArray.mk (List.toArray [])), (ByteArray.extract (ByteArray.extract a0 (1 : Nat) (Int.toNat ((ByteArray.size a0) : Int))) (1 : Nat) (Int.toNat ((ByteArray.size (ByteArray.extract a0 (1 : Nat) (Int.toNat ((ByteArray.size a0) : Int)))) : Int))), (6 : Int))) else ((g25 (IntKind.wrap IntKind.i64 (bt a0 (0 : Int))) (IntKind.wrap IntKind.i64 (bt (ByteArray.extract a0 (1 : Nat) (Int.toNat ((ByteArray.size a0) : Int))) (0 : Int))) (0 : Int) (ByteArray.mk (List.toArray []))).bind fun r1 => (ret ((IntKind.wrap IntKind.i64 (bt a0 (0 : Int))), (IntKind.wrap IntKind.i64 (bt (ByteArray.extract a0 (1 : Nat) (Int.toNat ((ByteArray.size a0) : Int))) (0 : Int))), (0 : Int), (ByteArray.mk (List.toArray [])), (ByteArray.extract (ByteArray.extract a0 (1 : Nat) (Int.toNat ((ByteArray.size a0) : Int))) (1 : Nat) (Int.toNat ((ByteArray.size (ByteArray.extract a0 (1 : Nat) (Int.toNat ((ByteArray.size a0) : Int)))) : Int))), r1)))) else none) else none)) else (bif ((IntKind.wrap IntKind.i64 (bt a0 (0 : Int))) == (2 : Int)) then ((g51 (ByteArray.extract a0 (1 : Nat) (Int.toNat ((ByteArray.size a0) : Int)))).bind fun r2 => (bif (r2.2.2 == (0 : Int)) then ((g25 (IntKind.wrap IntKind.i64 (bt a0 (0 : Int))) r2.1 (0 : Int) (ByteArray.mk (List.toArray []))).bind fun r3 => (ret ((IntKind.wrap IntKind.i64 (bt a0 (0 : Int))), r2.1, (0 : Int), (ByteArray.mk (List.toArray [])), r2.2.1, r3))) else (ret ((IntKind.wrap IntKind.i64 (bt a0 (0 : Int))), r2.1, (0 : Int), (ByteArray.mk (List.toArray [])), r2.2.1, r2.2.2)))) else (bif ((IntKind.wrap IntKind.i64 (bt a0 (0 : Int))) == (3 : Int)) then (bif (decide (((ByteArray.size (ByteArray.extract a0 (1 : Nat) (Int.toNat ((ByteArray.size a0) : Int)))) : Int) < (8 : Int))) then (ret ((IntKind.wrap IntKind.i64 (bt a0 (0 : Int))), (0 : Int), (0 : Int), (ByteArray.mk (List.toArray [])), (ByteArray.mk (List.toArray [])), (3 : Int))) else ((g52 (ByteArray.extract a0 (1 : Nat) (Int.toNat ((ByteArray.size a0) : Int)))).bind fun r4 => (bif ((true && (decide ((8 : Int) ≤ ((ByteArray.size (ByteArray.extract a0 (1 : Nat) (Int.toNat ((ByteArray.size a0) : Int)))) : Int)))) && (decide (((ByteArray.size (ByteArray.extract a0 (1 : Nat) (Int.toNat ((ByteArray.size a0) : Int)))) : Int) ≤ ((ByteArray.size (ByteArray.extract a0 (1 : Nat) (Int.toNat ((ByteArray.size a0) : Int)))) : Int)))) then ((g25 (IntKind.wrap IntKind.i64 (bt a0 (0 : Int))) (0 : Int) r4 (ByteArray.mk (List.toArray []))).bind fun r5 => (ret ((IntKind.wrap IntKind.i64 (bt a0 (0 : Int))), (0 : Int), r4, (ByteArray.mk (List.toArray [])), (ByteArray.extract (ByteArray.extract a0 (1 : Nat) (Int.toNat ((ByteArray.size a0) : Int))) (8 : Nat) (Int.toNat ((ByteArray.size (ByteArray.extract a0 (1 : Nat) (Int.toNat ((ByteArray.size a0) : Int)))) : Int))), r5))) else none))) else (bif ((IntKind.wrap IntKind.i64 (bt a0 (0 : Int))) == (4 : Int)) then ((s0 (ByteArray.extract a0 (1 : Nat) (Int.toNat ((ByteArray.size a0) : Int))) ((IntKind.wrap IntKind.i64 (bt a0 (0 : Int))) == (4 : Int)) (0 : Int) (0 : Int) (0 : Int) (ByteArray.mk (List.toArray [])) (IntKind.wrap IntKind.i64 (bt a0 (0 : Int))) (0 : Int) (0 : Int) (ByteArray.mk (List.toArray []))).bind ret) else ((s0 (ByteArray.extract a0 (1 : Nat) (Int.toNat ((ByteArray.size a0) : Int))) ((IntKind.wrap IntKind.i64 (bt a0 (0 : Int))) == (5 : Int)) (0 : Int) (0 : Int) (0 : Int) (ByteArray.mk (List.toArray [])) (IntKind.wrap IntKind.i64 (bt a0 (0 : Int))) (0 : Int) (0 : Int) (ByteArray.mk (List.toArray []))).bind ret)))))) else none) else none))
def transomref06_value.s0c {β : Type} (g25 : Int → Int → Int → ByteArray → Option Int) (g51 : ByteArray → Option (Int × ByteArray × Int)) (g52 : ByteArray → Option Int) (g53 : ByteArray → Option (ByteArray × ByteArray × Int)) (s0 : ByteArray → Bool → Int → Int → Int → ByteArray → Int → Int → Int → ByteArray → Option (Int × Int × Int × ByteArray × ByteArray × Int)) (x0 : ByteArray) (x1 : Bool) (x2 : Int) (x3 : Int) (x4 : Int) (x5 : ByteArray) (x6 : Int) (x7 : Int) (x8 : Int) (x9 : ByteArray) (ret : (Int × Int × Int × ByteArray × ByteArray × Int) → Option β) : Option β := (bif x1 then ((g53 x0).bind fun r0 => (bif (r0.2.2 == (0 : Int)) then ((g25 x6 x7 x8 r0.1).bind fun r1 => (ret (x6, x7, x8, r0.1, r0.2.1, r1))) else (ret (x6, x7, x8, r0.1, r0.2.1, r0.2.2)))) else (ret (x6, x7, x8, x9, x0, (5 : Int))))
theorem transomref06_value.c_bind {β : Type} (g25 : Int → Int → Int → ByteArray → Option Int) (g51 : ByteArray → Option (Int × ByteArray × Int)) (g52 : ByteArray → Option Int) (g53 : ByteArray → Option (ByteArray × ByteArray × Int)) (s0 : ByteArray → Bool → Int → Int → Int → ByteArray → Int → Int → Int → ByteArray → Option (Int × Int × Int × ByteArray × ByteArray × Int)) (a0 : ByteArray) (ret : (Int × Int × Int × ByteArray × ByteArray × Int) → Option β) : transomref06_value.c g25 g51 g52 g53 s0 a0 ret = (transomref06_value.c g25 g51 g52 g53 s0 a0 some).bind ret := by
  simp only [transomref06_value.c, bif_bind, sum_bind, Option.bind_assoc, Option.bind_some, Option.bind_none, Option.bind_fun_some]
theorem transomref06_value.s0c_bind {β : Type} (g25 : Int → Int → Int → ByteArray → Option Int) (g51 : ByteArray → Option (Int × ByteArray × Int)) (g52 : ByteArray → Option Int) (g53 : ByteArray → Option (ByteArray × ByteArray × Int)) (s0 : ByteArray → Bool → Int → Int → Int → ByteArray → Int → Int → Int → ByteArray → Option (Int × Int × Int × ByteArray × ByteArray × Int)) (x0 : ByteArray) (x1 : Bool) (x2 : Int) (x3 : Int) (x4 : Int) (x5 : ByteArray) (x6 : Int) (x7 : Int) (x8 : Int) (x9 : ByteArray) (ret : (Int × Int × Int × ByteArray × ByteArray × Int) → Option β) : transomref06_value.s0c g25 g51 g52 g53 s0 x0 x1 x2 x3 x4 x5 x6 x7 x8 x9 ret = (transomref06_value.s0c g25 g51 g52 g53 s0 x0 x1 x2 x3 x4 x5 x6 x7 x8 x9 some).bind ret := by
  simp only [transomref06_value.s0c, bif_bind, sum_bind, Option.bind_assoc, Option.bind_some, Option.bind_none, Option.bind_fun_some]
theorem transomref06_value.ev (g25 : Int → Int → Int → ByteArray → Option Int) (g51 : ByteArray → Option (Int × ByteArray × Int)) (g52 : ByteArray → Option Int) (g53 : ByteArray → Option (ByteArray × ByteArray × Int)) (s0 : ByteArray → Bool → Int → Int → Int → ByteArray → Int → Int → Int → ByteArray → Option (Int × Int × Int × ByteArray × ByteArray × Int)) (a0 : ByteArray) : evAt (env_transomref06_value g25 g51 g52 g53 s0) [] [0] [.v (.one (.d .str a0))] [] some = transomref06_value.c g25 g51 g52 g53 s0 a0 (fun r => some ⟨.tup [(.agg [(.d (.int .i64) r.1), (.d (.int .i64) r.2.1), (.d (.int .u64) r.2.2.1), (.d .str r.2.2.2.1)]), (.one (.d .str r.2.2.2.2.1)), (.one (.d (.int .i64) r.2.2.2.2.2))], []⟩) := by
  kernel_rfl
theorem transomref06_value.s0_ev (g25 : Int → Int → Int → ByteArray → Option Int) (g51 : ByteArray → Option (Int × ByteArray × Int)) (g52 : ByteArray → Option Int) (g53 : ByteArray → Option (ByteArray × ByteArray × Int)) (s0 : ByteArray → Bool → Int → Int → Int → ByteArray → Int → Int → Int → ByteArray → Option (Int × Int × Int × ByteArray × ByteArray × Int)) (x0 : ByteArray) (x1 : Bool) (x2 : Int) (x3 : Int) (x4 : Int) (x5 : ByteArray) (x6 : Int) (x7 : Int) (x8 : Int) (x9 : ByteArray) : evAt (env_transomref06_value g25 g51 g52 g53 s0) [1, 3, 1, 3, 1, 3, 1, 3, 1, 4, 1, 0, 1, 1, 1, 1, 1] [0, 2, 5, 65] [.v (.one (.d .str x0)), .v (.one (.ptr 0 0)), .v (.one (.ptr 1 0)), .v (.one (.d .bool x1))] [some (.box [(.d (.int .i64) x2), (.d (.int .i64) x3), (.d (.int .u64) x4), (.d .str x5)]), some (.box [(.d (.int .i64) x6), (.d (.int .i64) x7), (.d (.int .u64) x8), (.d .str x9)])] some = transomref06_value.s0c g25 g51 g52 g53 s0 x0 x1 x2 x3 x4 x5 x6 x7 x8 x9 (fun r => some ⟨.tup [(.agg [(.d (.int .i64) r.1), (.d (.int .i64) r.2.1), (.d (.int .u64) r.2.2.1), (.d .str r.2.2.2.1)]), (.one (.d .str r.2.2.2.2.1)), (.one (.d (.int .i64) r.2.2.2.2.2))], []⟩) := by
  kernel_rfl
def transomref06_value.s0 : Nat → ByteArray → Bool → Int → Int → Int → ByteArray → Int → Int → Int → ByteArray → Option (Int × Int × Int × ByteArray × ByteArray × Int)
  | 0, _, _, _, _, _, _, _, _, _, _ => none
  | k + 1, x0, x1, x2, x3, x4, x5, x6, x7, x8, x9 => transomref06_value.s0c (transomref04_Check.f k) (transomref03_ReadInt.f k) (transomref05_Number.f k) (transomref03_ReadText.f k) (transomref06_value.s0 k) x0 x1 x2 x3 x4 x5 x6 x7 x8 x9 some
def transomref06_value.f (k : Nat) (a0 : ByteArray) : Option (Int × Int × Int × ByteArray × ByteArray × Int) := transomref06_value.c (transomref04_Check.f k) (transomref03_ReadInt.f k) (transomref05_Number.f k) (transomref03_ReadText.f k) (transomref06_value.s0 k) a0 some
theorem transomref06_value.is (g25 : Int → Int → Int → ByteArray → Option Int) (g51 : ByteArray → Option (Int × ByteArray × Int)) (g52 : ByteArray → Option Int) (g53 : ByteArray → Option (ByteArray × ByteArray × Int)) (s0 : ByteArray → Bool → Int → Int → Int → ByteArray → Int → Int → Int → ByteArray → Option (Int × Int × Int × ByteArray × ByteArray × Int)) : FnIs (env_transomref06_value g25 g51 g52 g53 s0) 30 Go.Proofs.Try.f30 := ⟨Go.Proofs.Try.func30, rfl, rfl, rfl, by decide⟩
theorem transomref06_value.envok (g25 : Int → Int → Int → ByteArray → Option Int) (g51 : ByteArray → Option (Int × ByteArray × Int)) (g52 : ByteArray → Option Int) (g53 : ByteArray → Option (ByteArray × ByteArray × Int)) (s0 : ByteArray → Bool → Int → Int → Int → ByteArray → Int → Int → Int → ByteArray → Option (Int × Int × Int × ByteArray × ByteArray × Int)) (h25 : CtOK Go.Proofs.Try.prog 25 (ct_transomref04_Check g25)) (h51 : CtOK Go.Proofs.Try.prog 51 (ct_transomref03_ReadInt g51)) (h52 : CtOK Go.Proofs.Try.prog 52 (ct_transomref05_Number g52)) (h53 : CtOK Go.Proofs.Try.prog 53 (ct_transomref03_ReadText g53)) : EnvOK (env_transomref06_value g25 g51 g52 g53 s0).toEnv := by
  intro f c h
  simp only [env_transomref06_value] at h
  split at h
  · rename_i e; subst e; cases h; exact h25
  split at h
  · rename_i e; subst e; cases h; exact h51
  split at h
  · rename_i e; subst e; cases h; exact h52
  split at h
  · rename_i e; subst e; cases h; exact h53
  simp at h
theorem transomref06_value.segs_ok : ∀ k, ∀ s ∈ (env_transomref06_value (transomref04_Check.f k) (transomref03_ReadInt.f k) (transomref05_Number.f k) (transomref03_ReadText.f k) (transomref06_value.s0 k)).segs, SegOK (env_transomref06_value (transomref04_Check.f k) (transomref03_ReadInt.f k) (transomref05_Number.f k) (transomref03_ReadText.f k) (transomref06_value.s0 k)) Go.Proofs.Try.f30 s
  | 0 => by
    intro s hs
    simp only [env_transomref06_value, List.mem_cons, List.not_mem_nil, or_false] at hs
    rcases hs with rfl
    · intro tvs blks res h; exfalso; simp only [seg_transomref06_value_0] at h; split at h <;> simp [transomref06_value.s0] at h
  | k + 1 => by
    have ih := transomref06_value.segs_ok k
    intro s hs
    simp only [env_transomref06_value, List.mem_cons, List.not_mem_nil, or_false] at hs
    rcases hs with rfl
    · refine seg_of_ev (E := env_transomref06_value (transomref04_Check.f k) (transomref03_ReadInt.f k) (transomref05_Number.f k) (transomref03_ReadText.f k) (transomref06_value.s0 k)) (transomref06_value.envok _ _ _ _ _  (transomref04_Check.ok k) (transomref03_ReadInt.ok k) (transomref05_Number.ok k) (transomref03_ReadText.ok k)) ⟨(transomref06_value.is (transomref04_Check.f k) (transomref03_ReadInt.f k) (transomref05_Number.f k) (transomref03_ReadText.f k) (transomref06_value.s0 k)).rvs⟩ ih ?_
      intro tvs blks res h
      simp only [seg_transomref06_value_0] at h
      split at h
      · refine (transomref06_value.s0_ev (transomref04_Check.f k) (transomref03_ReadInt.f k) (transomref05_Number.f k) (transomref03_ReadText.f k) (transomref06_value.s0 k) _ _ _ _ _ _ _ _ _ _ ).trans ?_
        rw [transomref06_value.s0c_bind]
        exact h
      · simp at h
theorem transomref06_value.ok (k : Nat) : CtOK Go.Proofs.Try.prog 30 (ct_transomref06_value (transomref06_value.f k)) := by
  refine ct_of_ev (E := env_transomref06_value (transomref04_Check.f k) (transomref03_ReadInt.f k) (transomref05_Number.f k) (transomref03_ReadText.f k) (transomref06_value.s0 k)) (transomref06_value.is _ _ _ _ _ ) (transomref06_value.envok _ _ _ _ _  (transomref04_Check.ok k) (transomref03_ReadInt.ok k) (transomref05_Number.ok k) (transomref03_ReadText.ok k)) (transomref06_value.segs_ok k) rfl ?_
  intro tvs blks res h
  simp only [ct_transomref06_value] at h
  split at h
  · refine (transomref06_value.ev (transomref04_Check.f k) (transomref03_ReadInt.f k) (transomref05_Number.f k) (transomref03_ReadText.f k) (transomref06_value.s0 k) _ ).trans ?_
    rw [transomref06_value.c_bind]
    exact h
  · simp at h

/-! ### transomref06_Read: function 13 -/
def ct_transomref06_Read (g : ByteArray → Option ((List (Int × (Int × (Int × (ByteArray × Unit))))) × Int)) : Ct where
  nin := 0
  mv := []
  F := fun tvs blks {β} K => match tvs, blks with
    | [.v (.one (.d .str a0))], [] => (g a0).bind fun r => K ⟨.tup [(.one (.d (.sl (.pair (.int .i64) (.pair (.int .i64) (.pair (.int .u64) (.pair .str .unit))))) r.1)), (.one (.d (.int .i64) r.2))], []⟩
    | _, _ => none
  legit := fun tvs blks K r h => by
    split at h
    · obtain ⟨x, hx, hk⟩ := Option.bind_eq_some_iff.1 h
      refine ⟨_, ?_, hk⟩
      simp only [hx, Option.bind_some]
    · simp at h
def seg_transomref06_Read_0 (g : ByteArray → Int → Int → (List (Int × (Int × (Int × (ByteArray × Unit))))) → Option ((List (Int × (Int × (Int × (ByteArray × Unit))))) × Int)) : Seg where
  path := [4, 1, 0, 1, 1, 1, 1, 1]
  prep := [.own 6 (.pair (.int .i64) (.pair (.int .i64) (.pair (.int .u64) (.pair .str .unit))))]
  keep := [0, 4, 6, 7]
  F := fun tvs blks {β} K => match tvs, blks with
    | [.v (.one (.d .str x0)), .v (.one (.d (.int .u64) x1)), .v (.one (.own 0)), .v (.one (.d (.int .i64) x2))], [some (.own (.pair (.int .i64) (.pair (.int .i64) (.pair (.int .u64) (.pair .str .unit)))) false x3)] => (g x0 x1 x2 x3).bind fun r => K ⟨.tup [(.one (.d (.sl (.pair (.int .i64) (.pair (.int .i64) (.pair (.int .u64) (.pair .str .unit))))) r.1)), (.one (.d (.int .i64) r.2))], []⟩
    | _, _ => none
  legit := fun tvs blks K r h => by
    split at h
    · obtain ⟨x, hx, hk⟩ := Option.bind_eq_some_iff.1 h
      refine ⟨_, ?_, hk⟩
      simp only [hx, Option.bind_some]
    · simp at h
noncomputable def env_transomref06_Read (g29 : ByteArray → Option (Int × ByteArray × Int)) (g30 : ByteArray → Option (Int × Int × Int × ByteArray × ByteArray × Int)) (s0 : ByteArray → Int → Int → (List (Int × (Int × (Int × (ByteArray × Unit))))) → Option ((List (Int × (Int × (Int × (ByteArray × Unit))))) × Int)) : FEnv := { P := Go.Proofs.Try.prog, ct := fun m => if m = 29 then some (ct_transomref03_ReadUint g29) else if m = 30 then some (ct_transomref06_value g30) else none, N := 46, body := Go.Proofs.Try.f13.body.getD .skip, rvs := [.tmp 2, .tmp 3], rts := [22, 3], nin := 0, rmv := [], segs := [seg_transomref06_Read_0 s0] }
def transomref06_Read.c {β : Type} (g29 : ByteArray → Option (Int × ByteArray × Int)) (g30 : ByteArray → Option (Int × Int × Int × ByteArray × ByteArray × Int)) (s0 : ByteArray → Int → Int → (List (Int × (Int × (Int × (ByteArray × Unit))))) → Option ((List (Int × (Int × (Int × (ByteArray × Unit))))) × Int)) (a0 : ByteArray) (ret : ((List (Int × (Int × (Int × (ByteArray × Unit))))) × Int) → Option β) : Option β := ((g29 a0).bind fun r0 => (bif (r0.2.2 != (0 : Int)) then (ret ([], r0.2.2)) else (bif (decide (r0.1 > (8 : Int))) then (ret ([], (2 : Int))) else ((s0 r0.2.1 r0.1 (0 : Int) []).bind ret))))
def transomref06_Read.s0c {β : Type} (g29 : ByteArray → Option (Int × ByteArray × Int)) (g30 : ByteArray → Option (Int × Int × Int × ByteArray × ByteArray × Int)) (s0 : ByteArray → Int → Int → (List (Int × (Int × (Int × (ByteArray × Unit))))) → Option ((List (Int × (Int × (Int × (ByteArray × Unit))))) × Int)) (x0 : ByteArray) (x1 : Int) (x2 : Int) (x3 : List (Int × (Int × (Int × (ByteArray × Unit))))) (ret : ((List (Int × (Int × (Int × (ByteArray × Unit))))) × Int) → Option β) : Option β := (bif (decide (x2 < (IntKind.wrap IntKind.i64 x1))) then ((g30 x0).bind fun r0 => (bif (r0.2.2.2.2.2 != (0 : Int)) then (ret ([], r0.2.2.2.2.2)) else (bif (decide ((((List.length x3) + (1 : Nat)) * (40 : Nat)) ≤ (35184372088832 : Nat))) then ((s0 r0.2.2.2.2.1 x1 (IntKind.wrap IntKind.i64 (x2 + (1 : Int))) (x3 ++ [(r0.1, (r0.2.1, (r0.2.2.1, (r0.2.2.2.1, ()))))])).bind ret) else none))) else (bif (decide (((ByteArray.size x0) : Int) > (0 : Int))) then (ret ([], (4 : Int))) else (ret (x3, (0 : Int)))))
theorem transomref06_Read.c_bind {β : Type} (g29 : ByteArray → Option (Int × ByteArray × Int)) (g30 : ByteArray → Option (Int × Int × Int × ByteArray × ByteArray × Int)) (s0 : ByteArray → Int → Int → (List (Int × (Int × (Int × (ByteArray × Unit))))) → Option ((List (Int × (Int × (Int × (ByteArray × Unit))))) × Int)) (a0 : ByteArray) (ret : ((List (Int × (Int × (Int × (ByteArray × Unit))))) × Int) → Option β) : transomref06_Read.c g29 g30 s0 a0 ret = (transomref06_Read.c g29 g30 s0 a0 some).bind ret := by
  simp only [transomref06_Read.c, bif_bind, sum_bind, Option.bind_assoc, Option.bind_some, Option.bind_none, Option.bind_fun_some]
theorem transomref06_Read.s0c_bind {β : Type} (g29 : ByteArray → Option (Int × ByteArray × Int)) (g30 : ByteArray → Option (Int × Int × Int × ByteArray × ByteArray × Int)) (s0 : ByteArray → Int → Int → (List (Int × (Int × (Int × (ByteArray × Unit))))) → Option ((List (Int × (Int × (Int × (ByteArray × Unit))))) × Int)) (x0 : ByteArray) (x1 : Int) (x2 : Int) (x3 : List (Int × (Int × (Int × (ByteArray × Unit))))) (ret : ((List (Int × (Int × (Int × (ByteArray × Unit))))) × Int) → Option β) : transomref06_Read.s0c g29 g30 s0 x0 x1 x2 x3 ret = (transomref06_Read.s0c g29 g30 s0 x0 x1 x2 x3 some).bind ret := by
  simp only [transomref06_Read.s0c, bif_bind, sum_bind, Option.bind_assoc, Option.bind_some, Option.bind_none, Option.bind_fun_some]
theorem transomref06_Read.ev (g29 : ByteArray → Option (Int × ByteArray × Int)) (g30 : ByteArray → Option (Int × Int × Int × ByteArray × ByteArray × Int)) (s0 : ByteArray → Int → Int → (List (Int × (Int × (Int × (ByteArray × Unit))))) → Option ((List (Int × (Int × (Int × (ByteArray × Unit))))) × Int)) (a0 : ByteArray) : evAt (env_transomref06_Read g29 g30 s0) [] [0] [.v (.one (.d .str a0))] [] some = transomref06_Read.c g29 g30 s0 a0 (fun r => some ⟨.tup [(.one (.d (.sl (.pair (.int .i64) (.pair (.int .i64) (.pair (.int .u64) (.pair .str .unit))))) r.1)), (.one (.d (.int .i64) r.2))], []⟩) := by
  kernel_rfl
theorem transomref06_Read.s0_ev (g29 : ByteArray → Option (Int × ByteArray × Int)) (g30 : ByteArray → Option (Int × Int × Int × ByteArray × ByteArray × Int)) (s0 : ByteArray → Int → Int → (List (Int × (Int × (Int × (ByteArray × Unit))))) → Option ((List (Int × (Int × (Int × (ByteArray × Unit))))) × Int)) (x0 : ByteArray) (x1 : Int) (x2 : Int) (x3 : List (Int × (Int × (Int × (ByteArray × Unit))))) : evAt (env_transomref06_Read g29 g30 s0) [4, 1, 0, 1, 1, 1, 1, 1] [0, 4, 6, 7] [.v (.one (.d .str x0)), .v (.one (.d (.int .u64) x1)), .v (.one (.own 0)), .v (.one (.d (.int .i64) x2))] [some (.own (.pair (.int .i64) (.pair (.int .i64) (.pair (.int .u64) (.pair .str .unit)))) false x3)] some = transomref06_Read.s0c g29 g30 s0 x0 x1 x2 x3 (fun r => some ⟨.tup [(.one (.d (.sl (.pair (.int .i64) (.pair (.int .i64) (.pair (.int .u64) (.pair .str .unit))))) r.1)), (.one (.d (.int .i64) r.2))], []⟩) := by
  kernel_rfl
def transomref06_Read.s0 : Nat → ByteArray → Int → Int → (List (Int × (Int × (Int × (ByteArray × Unit))))) → Option ((List (Int × (Int × (Int × (ByteArray × Unit))))) × Int)
  | 0, _, _, _, _ => none
  | k + 1, x0, x1, x2, x3 => transomref06_Read.s0c (transomref03_ReadUint.f k) (transomref06_value.f k) (transomref06_Read.s0 k) x0 x1 x2 x3 some
def transomref06_Read.f (k : Nat) (a0 : ByteArray) : Option ((List (Int × (Int × (Int × (ByteArray × Unit))))) × Int) := transomref06_Read.c (transomref03_ReadUint.f k) (transomref06_value.f k) (transomref06_Read.s0 k) a0 some
theorem transomref06_Read.is (g29 : ByteArray → Option (Int × ByteArray × Int)) (g30 : ByteArray → Option (Int × Int × Int × ByteArray × ByteArray × Int)) (s0 : ByteArray → Int → Int → (List (Int × (Int × (Int × (ByteArray × Unit))))) → Option ((List (Int × (Int × (Int × (ByteArray × Unit))))) × Int)) : FnIs (env_transomref06_Read g29 g30 s0) 13 Go.Proofs.Try.f13 := ⟨Go.Proofs.Try.func13, rfl, rfl, rfl, by decide⟩
theorem transomref06_Read.envok (g29 : ByteArray → Option (Int × ByteArray × Int)) (g30 : ByteArray → Option (Int × Int × Int × ByteArray × ByteArray × Int)) (s0 : ByteArray → Int → Int → (List (Int × (Int × (Int × (ByteArray × Unit))))) → Option ((List (Int × (Int × (Int × (ByteArray × Unit))))) × Int)) (h29 : CtOK Go.Proofs.Try.prog 29 (ct_transomref03_ReadUint g29)) (h30 : CtOK Go.Proofs.Try.prog 30 (ct_transomref06_value g30)) : EnvOK (env_transomref06_Read g29 g30 s0).toEnv := by
  intro f c h
  simp only [env_transomref06_Read] at h
  split at h
  · rename_i e; subst e; cases h; exact h29
  split at h
  · rename_i e; subst e; cases h; exact h30
  simp at h
theorem transomref06_Read.segs_ok : ∀ k, ∀ s ∈ (env_transomref06_Read (transomref03_ReadUint.f k) (transomref06_value.f k) (transomref06_Read.s0 k)).segs, SegOK (env_transomref06_Read (transomref03_ReadUint.f k) (transomref06_value.f k) (transomref06_Read.s0 k)) Go.Proofs.Try.f13 s
  | 0 => by
    intro s hs
    simp only [env_transomref06_Read, List.mem_cons, List.not_mem_nil, or_false] at hs
    rcases hs with rfl
    · intro tvs blks res h; exfalso; simp only [seg_transomref06_Read_0] at h; split at h <;> simp [transomref06_Read.s0] at h
  | k + 1 => by
    have ih := transomref06_Read.segs_ok k
    intro s hs
    simp only [env_transomref06_Read, List.mem_cons, List.not_mem_nil, or_false] at hs
    rcases hs with rfl
    · refine seg_of_ev (E := env_transomref06_Read (transomref03_ReadUint.f k) (transomref06_value.f k) (transomref06_Read.s0 k)) (transomref06_Read.envok _ _ _  (transomref03_ReadUint.ok k) (transomref06_value.ok k)) ⟨(transomref06_Read.is (transomref03_ReadUint.f k) (transomref06_value.f k) (transomref06_Read.s0 k)).rvs⟩ ih ?_
      intro tvs blks res h
      simp only [seg_transomref06_Read_0] at h
      split at h
      · refine (transomref06_Read.s0_ev (transomref03_ReadUint.f k) (transomref06_value.f k) (transomref06_Read.s0 k) _ _ _ _ ).trans ?_
        rw [transomref06_Read.s0c_bind]
        exact h
      · simp at h
theorem transomref06_Read.ok (k : Nat) : CtOK Go.Proofs.Try.prog 13 (ct_transomref06_Read (transomref06_Read.f k)) := by
  refine ct_of_ev (E := env_transomref06_Read (transomref03_ReadUint.f k) (transomref06_value.f k) (transomref06_Read.s0 k)) (transomref06_Read.is _ _ _ ) (transomref06_Read.envok _ _ _  (transomref03_ReadUint.ok k) (transomref06_value.ok k)) (transomref06_Read.segs_ok k) rfl ?_
  intro tvs blks res h
  simp only [ct_transomref06_Read] at h
  split at h
  · refine (transomref06_Read.ev (transomref03_ReadUint.f k) (transomref06_value.f k) (transomref06_Read.s0 k) _ ).trans ?_
    rw [transomref06_Read.c_bind]
    exact h
  · simp at h

/-! ### transomref04_Same: function 54 -/
def ct_transomref04_Same (g : Int → Int → Int → ByteArray → Int → Int → Int → ByteArray → Option Bool) : Ct where
  nin := 0
  mv := []
  F := fun tvs blks {β} K => match tvs, blks with
    | [.v (.agg [(.d (.int .i64) a0), (.d (.int .i64) a1), (.d (.int .u64) a2), (.d .str a3)]), .v (.agg [(.d (.int .i64) a4), (.d (.int .i64) a5), (.d (.int .u64) a6), (.d .str a7)])], [] => (g a0 a1 a2 a3 a4 a5 a6 a7).bind fun r => K ⟨.v (.one (.d .bool r)), []⟩
    | _, _ => none
  legit := fun tvs blks K r h => by
    split at h
    · obtain ⟨x, hx, hk⟩ := Option.bind_eq_some_iff.1 h
      refine ⟨_, ?_, hk⟩
      simp only [hx, Option.bind_some]
    · simp at h
noncomputable def env_transomref04_Same   : FEnv := { P := Go.Proofs.Try.prog, ct := fun m => none, N := 31, body := Go.Proofs.Try.f54.body.getD .skip, rvs := [.tmp 4], rts := [4], nin := 0, rmv := [], segs := [] }
def transomref04_Same.c {β : Type}   (a0 : Int) (a1 : Int) (a2 : Int) (a3 : ByteArray) (a4 : Int) (a5 : Int) (a6 : Int) (a7 : ByteArray) (ret : Bool → Option β) : Option β := (bif (a0 == a4) then (bif (a1 == a5) then (bif (a2 == a6) then (ret (((ByteArray.toList a3) == (ByteArray.toList a7)))) else (ret (false))) else (ret (false))) else (ret (false)))
theorem transomref04_Same.c_bind {β : Type}   (a0 : Int) (a1 : Int) (a2 : Int) (a3 : ByteArray) (a4 : Int) (a5 : Int) (a6 : Int) (a7 : ByteArray) (ret : Bool → Option β) : transomref04_Same.c   a0 a1 a2 a3 a4 a5 a6 a7 ret = (transomref04_Same.c   a0 a1 a2 a3 a4 a5 a6 a7 some).bind ret := by
  simp only [transomref04_Same.c, bif_bind, sum_bind, Option.bind_assoc, Option.bind_some, Option.bind_none, Option.bind_fun_some]
theorem transomref04_Same.ev   (a0 : Int) (a1 : Int) (a2 : Int) (a3 : ByteArray) (a4 : Int) (a5 : Int) (a6 : Int) (a7 : ByteArray) : evAt (env_transomref04_Same  ) [] [0, 1] [.v (.agg [(.d (.int .i64) a0), (.d (.int .i64) a1), (.d (.int .u64) a2), (.d .str a3)]), .v (.agg [(.d (.int .i64) a4), (.d (.int .i64) a5), (.d (.int .u64) a6), (.d .str a7)])] [] some = transomref04_Same.c   a0 a1 a2 a3 a4 a5 a6 a7 (fun r => some ⟨.v (.one (.d .bool r)), []⟩) := by
  kernel_rfl
def transomref04_Same.f (k : Nat) (a0 : Int) (a1 : Int) (a2 : Int) (a3 : ByteArray) (a4 : Int) (a5 : Int) (a6 : Int) (a7 : ByteArray) : Option Bool := transomref04_Same.c   a0 a1 a2 a3 a4 a5 a6 a7 some
theorem transomref04_Same.is   : FnIs (env_transomref04_Same  ) 54 Go.Proofs.Try.f54 := ⟨Go.Proofs.Try.func54, rfl, rfl, rfl, by decide⟩
theorem transomref04_Same.envok    : EnvOK (env_transomref04_Same  ).toEnv := by
  intro f c h
  simp only [env_transomref04_Same] at h
  simp at h
theorem transomref04_Same.ok (k : Nat) : CtOK Go.Proofs.Try.prog 54 (ct_transomref04_Same (transomref04_Same.f k)) := by
  refine ct_of_ev (E := env_transomref04_Same  ) (transomref04_Same.is ) (transomref04_Same.envok  ) (fun s hs => by simp [env_transomref04_Same] at hs) rfl ?_
  intro tvs blks res h
  simp only [ct_transomref04_Same] at h
  split at h
  · refine (transomref04_Same.ev   _ _ _ _ _ _ _ _ ).trans ?_
    rw [transomref04_Same.c_bind]
    exact h
  · simp at h

/-! ### transomref04_SameRow: function 31 -/
def ct_transomref04_SameRow (g : (List (Int × (Int × (Int × (ByteArray × Unit))))) → (List (Int × (Int × (Int × (ByteArray × Unit))))) → Option Bool) : Ct where
  nin := 0
  mv := []
  F := fun tvs blks {β} K => match tvs, blks with
    | [.v (.one (.d (.sl (.pair (.int .i64) (.pair (.int .i64) (.pair (.int .u64) (.pair .str .unit))))) a0)), .v (.one (.d (.sl (.pair (.int .i64) (.pair (.int .i64) (.pair (.int .u64) (.pair .str .unit))))) a1))], [] => (g a0 a1).bind fun r => K ⟨.v (.one (.d .bool r)), []⟩
    | _, _ => none
  legit := fun tvs blks K r h => by
    split at h
    · obtain ⟨x, hx, hk⟩ := Option.bind_eq_some_iff.1 h
      refine ⟨_, ?_, hk⟩
      simp only [hx, Option.bind_some]
    · simp at h
def seg_transomref04_SameRow_0 (g : (List (Int × (Int × (Int × (ByteArray × Unit))))) → (List (Int × (Int × (Int × (ByteArray × Unit))))) → Int → Option Bool) : Seg where
  path := [4, 1, 0, 1, 1]
  prep := []
  keep := [0, 1, 5]
  F := fun tvs blks {β} K => match tvs, blks with
    | [.v (.one (.d (.sl (.pair (.int .i64) (.pair (.int .i64) (.pair (.int .u64) (.pair .str .unit))))) x0)), .v (.one (.d (.sl (.pair (.int .i64) (.pair (.int .i64) (.pair (.int .u64) (.pair .str .unit))))) x1)), .v (.one (.d (.int .i64) x2))], [] => (g x0 x1 x2).bind fun r => K ⟨.v (.one (.d .bool r)), []⟩
    | _, _ => none
  legit := fun tvs blks K r h => by
    split at h
    · obtain ⟨x, hx, hk⟩ := Option.bind_eq_some_iff.1 h
      refine ⟨_, ?_, hk⟩
      simp only [hx, Option.bind_some]
    · simp at h
noncomputable def env_transomref04_SameRow (g54 : Int → Int → Int → ByteArray → Int → Int → Int → ByteArray → Option Bool) (s0 : (List (Int × (Int × (Int × (ByteArray × Unit))))) → (List (Int × (Int × (Int × (ByteArray × Unit))))) → Int → Option Bool) : FEnv := { P := Go.Proofs.Try.prog, ct := fun m => if m = 54 then some (ct_transomref04_Same g54) else none, N := 27, body := Go.Proofs.Try.f31.body.getD .skip, rvs := [.tmp 4], rts := [4], nin := 0, rmv := [], segs := [seg_transomref04_SameRow_0 s0] }
def transomref04_SameRow.c {β : Type} (g54 : Int → Int → Int → ByteArray → Int → Int → Int → ByteArray → Option Bool) (s0 : (List (Int × (Int × (Int × (ByteArray × Unit))))) → (List (Int × (Int × (Int × (ByteArray × Unit))))) → Int → Option Bool) (a0 : List (Int × (Int × (Int × (ByteArray × Unit))))) (a1 : List (Int × (Int × (Int × (ByteArray × Unit))))) (ret : Bool → Option β) : Option β := (bif (((List.length a0) : Int) != ((List.length a1) : Int)) then (ret (false)) else ((s0 a0 a1 (0 : Int)).bind ret))
def transomref04_SameRow.s0c {β : Type} (g54 : Int → Int → Int → ByteArray → Int → Int → Int → ByteArray → Option Bool) (s0 : (List (Int × (Int × (Int × (ByteArray × Unit))))) → (List (Int × (Int × (Int × (ByteArray × Unit))))) → Int → Option Bool) (x0 : List (Int × (Int × (Int × (ByteArray × Unit))))) (x1 : List (Int × (Int × (Int × (ByteArray × Unit))))) (x2 : Int) (ret : Bool → Option β) : Option β := (bif (decide (x2 < ((List.length x0) : Int))) then (bif ((decide ((0 : Int) ≤ x2)) && (decide (x2 < ((List.length x0) : Int)))) then (bif ((decide ((0 : Int) ≤ x2)) && (decide (x2 < ((List.length x1) : Int)))) then ((g54 (elem (Ty.pair (Ty.int IntKind.i64) (Ty.pair (Ty.int IntKind.i64) (Ty.pair (Ty.int IntKind.u64) (Ty.pair Ty.str Ty.unit)))) x0 x2).1 (elem (Ty.pair (Ty.int IntKind.i64) (Ty.pair (Ty.int IntKind.i64) (Ty.pair (Ty.int IntKind.u64) (Ty.pair Ty.str Ty.unit)))) x0 x2).2.1 (elem (Ty.pair (Ty.int IntKind.i64) (Ty.pair (Ty.int IntKind.i64) (Ty.pair (Ty.int IntKind.u64) (Ty.pair Ty.str Ty.unit)))) x0 x2).2.2.1 (elem (Ty.pair (Ty.int IntKind.i64) (Ty.pair (Ty.int IntKind.i64) (Ty.pair (Ty.int IntKind.u64) (Ty.pair Ty.str Ty.unit)))) x0 x2).2.2.2.1 (elem (Ty.pair (Ty.int IntKind.i64) (Ty.pair (Ty.int IntKind.i64) (Ty.pair (Ty.int IntKind.u64) (Ty.pair Ty.str Ty.unit)))) x1 x2).1 (elem (Ty.pair (Ty.int IntKind.i64) (Ty.pair (Ty.int IntKind.i64) (Ty.pair (Ty.int IntKind.u64) (Ty.pair Ty.str Ty.unit)))) x1 x2).2.1 (elem (Ty.pair (Ty.int IntKind.i64) (Ty.pair (Ty.int IntKind.i64) (Ty.pair (Ty.int IntKind.u64) (Ty.pair Ty.str Ty.unit)))) x1 x2).2.2.1 (elem (Ty.pair (Ty.int IntKind.i64) (Ty.pair (Ty.int IntKind.i64) (Ty.pair (Ty.int IntKind.u64) (Ty.pair Ty.str Ty.unit)))) x1 x2).2.2.2.1).bind fun r0 => (bif (!r0) then (ret (false)) else ((s0 x0 x1 (IntKind.wrap IntKind.i64 (x2 + (1 : Int)))).bind ret))) else none) else none) else (ret (true)))
theorem transomref04_SameRow.c_bind {β : Type} (g54 : Int → Int → Int → ByteArray → Int → Int → Int → ByteArray → Option Bool) (s0 : (List (Int × (Int × (Int × (ByteArray × Unit))))) → (List (Int × (Int × (Int × (ByteArray × Unit))))) → Int → Option Bool) (a0 : List (Int × (Int × (Int × (ByteArray × Unit))))) (a1 : List (Int × (Int × (Int × (ByteArray × Unit))))) (ret : Bool → Option β) : transomref04_SameRow.c g54 s0 a0 a1 ret = (transomref04_SameRow.c g54 s0 a0 a1 some).bind ret := by
  simp only [transomref04_SameRow.c, bif_bind, sum_bind, Option.bind_assoc, Option.bind_some, Option.bind_none, Option.bind_fun_some]
theorem transomref04_SameRow.s0c_bind {β : Type} (g54 : Int → Int → Int → ByteArray → Int → Int → Int → ByteArray → Option Bool) (s0 : (List (Int × (Int × (Int × (ByteArray × Unit))))) → (List (Int × (Int × (Int × (ByteArray × Unit))))) → Int → Option Bool) (x0 : List (Int × (Int × (Int × (ByteArray × Unit))))) (x1 : List (Int × (Int × (Int × (ByteArray × Unit))))) (x2 : Int) (ret : Bool → Option β) : transomref04_SameRow.s0c g54 s0 x0 x1 x2 ret = (transomref04_SameRow.s0c g54 s0 x0 x1 x2 some).bind ret := by
  simp only [transomref04_SameRow.s0c, bif_bind, sum_bind, Option.bind_assoc, Option.bind_some, Option.bind_none, Option.bind_fun_some]
theorem transomref04_SameRow.ev (g54 : Int → Int → Int → ByteArray → Int → Int → Int → ByteArray → Option Bool) (s0 : (List (Int × (Int × (Int × (ByteArray × Unit))))) → (List (Int × (Int × (Int × (ByteArray × Unit))))) → Int → Option Bool) (a0 : List (Int × (Int × (Int × (ByteArray × Unit))))) (a1 : List (Int × (Int × (Int × (ByteArray × Unit))))) : evAt (env_transomref04_SameRow g54 s0) [] [0, 1] [.v (.one (.d (.sl (.pair (.int .i64) (.pair (.int .i64) (.pair (.int .u64) (.pair .str .unit))))) a0)), .v (.one (.d (.sl (.pair (.int .i64) (.pair (.int .i64) (.pair (.int .u64) (.pair .str .unit))))) a1))] [] some = transomref04_SameRow.c g54 s0 a0 a1 (fun r => some ⟨.v (.one (.d .bool r)), []⟩) := by
  kernel_rfl
theorem transomref04_SameRow.s0_ev (g54 : Int → Int → Int → ByteArray → Int → Int → Int → ByteArray → Option Bool) (s0 : (List (Int × (Int × (Int × (ByteArray × Unit))))) → (List (Int × (Int × (Int × (ByteArray × Unit))))) → Int → Option Bool) (x0 : List (Int × (Int × (Int × (ByteArray × Unit))))) (x1 : List (Int × (Int × (Int × (ByteArray × Unit))))) (x2 : Int) : evAt (env_transomref04_SameRow g54 s0) [4, 1, 0, 1, 1] [0, 1, 5] [.v (.one (.d (.sl (.pair (.int .i64) (.pair (.int .i64) (.pair (.int .u64) (.pair .str .unit))))) x0)), .v (.one (.d (.sl (.pair (.int .i64) (.pair (.int .i64) (.pair (.int .u64) (.pair .str .unit))))) x1)), .v (.one (.d (.int .i64) x2))] [] some = transomref04_SameRow.s0c g54 s0 x0 x1 x2 (fun r => some ⟨.v (.one (.d .bool r)), []⟩) := by
  kernel_rfl
def transomref04_SameRow.s0 : Nat → (List (Int × (Int × (Int × (ByteArray × Unit))))) → (List (Int × (Int × (Int × (ByteArray × Unit))))) → Int → Option Bool
  | 0, _, _, _ => none
  | k + 1, x0, x1, x2 => transomref04_SameRow.s0c (transomref04_Same.f k) (transomref04_SameRow.s0 k) x0 x1 x2 some
def transomref04_SameRow.f (k : Nat) (a0 : List (Int × (Int × (Int × (ByteArray × Unit))))) (a1 : List (Int × (Int × (Int × (ByteArray × Unit))))) : Option Bool := transomref04_SameRow.c (transomref04_Same.f k) (transomref04_SameRow.s0 k) a0 a1 some
theorem transomref04_SameRow.is (g54 : Int → Int → Int → ByteArray → Int → Int → Int → ByteArray → Option Bool) (s0 : (List (Int × (Int × (Int × (ByteArray × Unit))))) → (List (Int × (Int × (Int × (ByteArray × Unit))))) → Int → Option Bool) : FnIs (env_transomref04_SameRow g54 s0) 31 Go.Proofs.Try.f31 := ⟨Go.Proofs.Try.func31, rfl, rfl, rfl, by decide⟩
theorem transomref04_SameRow.envok (g54 : Int → Int → Int → ByteArray → Int → Int → Int → ByteArray → Option Bool) (s0 : (List (Int × (Int × (Int × (ByteArray × Unit))))) → (List (Int × (Int × (Int × (ByteArray × Unit))))) → Int → Option Bool) (h54 : CtOK Go.Proofs.Try.prog 54 (ct_transomref04_Same g54)) : EnvOK (env_transomref04_SameRow g54 s0).toEnv := by
  intro f c h
  simp only [env_transomref04_SameRow] at h
  split at h
  · rename_i e; subst e; cases h; exact h54
  simp at h
theorem transomref04_SameRow.segs_ok : ∀ k, ∀ s ∈ (env_transomref04_SameRow (transomref04_Same.f k) (transomref04_SameRow.s0 k)).segs, SegOK (env_transomref04_SameRow (transomref04_Same.f k) (transomref04_SameRow.s0 k)) Go.Proofs.Try.f31 s
  | 0 => by
    intro s hs
    simp only [env_transomref04_SameRow, List.mem_cons, List.not_mem_nil, or_false] at hs
    rcases hs with rfl
    · intro tvs blks res h; exfalso; simp only [seg_transomref04_SameRow_0] at h; split at h <;> simp [transomref04_SameRow.s0] at h
  | k + 1 => by
    have ih := transomref04_SameRow.segs_ok k
    intro s hs
    simp only [env_transomref04_SameRow, List.mem_cons, List.not_mem_nil, or_false] at hs
    rcases hs with rfl
    · refine seg_of_ev (E := env_transomref04_SameRow (transomref04_Same.f k) (transomref04_SameRow.s0 k)) (transomref04_SameRow.envok _ _  (transomref04_Same.ok k)) ⟨(transomref04_SameRow.is (transomref04_Same.f k) (transomref04_SameRow.s0 k)).rvs⟩ ih ?_
      intro tvs blks res h
      simp only [seg_transomref04_SameRow_0] at h
      split at h
      · refine (transomref04_SameRow.s0_ev (transomref04_Same.f k) (transomref04_SameRow.s0 k) _ _ _ ).trans ?_
        rw [transomref04_SameRow.s0c_bind]
        exact h
      · simp at h
theorem transomref04_SameRow.ok (k : Nat) : CtOK Go.Proofs.Try.prog 31 (ct_transomref04_SameRow (transomref04_SameRow.f k)) := by
  refine ct_of_ev (E := env_transomref04_SameRow (transomref04_Same.f k) (transomref04_SameRow.s0 k)) (transomref04_SameRow.is _ _ ) (transomref04_SameRow.envok _ _  (transomref04_Same.ok k)) (transomref04_SameRow.segs_ok k) rfl ?_
  intro tvs blks res h
  simp only [ct_transomref04_SameRow] at h
  split at h
  · refine (transomref04_SameRow.ev (transomref04_Same.f k) (transomref04_SameRow.s0 k) _ _ ).trans ?_
    rw [transomref04_SameRow.c_bind]
    exact h
  · simp at h

/-! ### transomref06_Same: function 14 -/
def ct_transomref06_Same (g : (List (Int × (Int × (Int × (ByteArray × Unit))))) → (List (Int × (Int × (Int × (ByteArray × Unit))))) → Option Bool) : Ct where
  nin := 0
  mv := []
  F := fun tvs blks {β} K => match tvs, blks with
    | [.v (.one (.d (.sl (.pair (.int .i64) (.pair (.int .i64) (.pair (.int .u64) (.pair .str .unit))))) a0)), .v (.one (.d (.sl (.pair (.int .i64) (.pair (.int .i64) (.pair (.int .u64) (.pair .str .unit))))) a1))], [] => (g a0 a1).bind fun r => K ⟨.v (.one (.d .bool r)), []⟩
    | _, _ => none
  legit := fun tvs blks K r h => by
    split at h
    · obtain ⟨x, hx, hk⟩ := Option.bind_eq_some_iff.1 h
      refine ⟨_, ?_, hk⟩
      simp only [hx, Option.bind_some]
    · simp at h
noncomputable def env_transomref06_Same (g31 : (List (Int × (Int × (Int × (ByteArray × Unit))))) → (List (Int × (Int × (Int × (ByteArray × Unit))))) → Option Bool)  : FEnv := { P := Go.Proofs.Try.prog, ct := fun m => if m = 31 then some (ct_transomref04_SameRow g31) else none, N := 8, body := Go.Proofs.Try.f14.body.getD .skip, rvs := [.tmp 4], rts := [4], nin := 0, rmv := [], segs := [] }
def transomref06_Same.c {β : Type} (g31 : (List (Int × (Int × (Int × (ByteArray × Unit))))) → (List (Int × (Int × (Int × (ByteArray × Unit))))) → Option Bool)  (a0 : List (Int × (Int × (Int × (ByteArray × Unit))))) (a1 : List (Int × (Int × (Int × (ByteArray × Unit))))) (ret : Bool → Option β) : Option β := ((g31 a0 a1).bind fun r0 => (ret (r0)))
theorem transomref06_Same.c_bind {β : Type} (g31 : (List (Int × (Int × (Int × (ByteArray × Unit))))) → (List (Int × (Int × (Int × (ByteArray × Unit))))) → Option Bool)  (a0 : List (Int × (Int × (Int × (ByteArray × Unit))))) (a1 : List (Int × (Int × (Int × (ByteArray × Unit))))) (ret : Bool → Option β) : transomref06_Same.c g31  a0 a1 ret = (transomref06_Same.c g31  a0 a1 some).bind ret := by
  simp only [transomref06_Same.c, bif_bind, sum_bind, Option.bind_assoc, Option.bind_some, Option.bind_none, Option.bind_fun_some]
theorem transomref06_Same.ev (g31 : (List (Int × (Int × (Int × (ByteArray × Unit))))) → (List (Int × (Int × (Int × (ByteArray × Unit))))) → Option Bool)  (a0 : List (Int × (Int × (Int × (ByteArray × Unit))))) (a1 : List (Int × (Int × (Int × (ByteArray × Unit))))) : evAt (env_transomref06_Same g31 ) [] [0, 1] [.v (.one (.d (.sl (.pair (.int .i64) (.pair (.int .i64) (.pair (.int .u64) (.pair .str .unit))))) a0)), .v (.one (.d (.sl (.pair (.int .i64) (.pair (.int .i64) (.pair (.int .u64) (.pair .str .unit))))) a1))] [] some = transomref06_Same.c g31  a0 a1 (fun r => some ⟨.v (.one (.d .bool r)), []⟩) := by
  kernel_rfl
def transomref06_Same.f (k : Nat) (a0 : List (Int × (Int × (Int × (ByteArray × Unit))))) (a1 : List (Int × (Int × (Int × (ByteArray × Unit))))) : Option Bool := transomref06_Same.c (transomref04_SameRow.f k)  a0 a1 some
theorem transomref06_Same.is (g31 : (List (Int × (Int × (Int × (ByteArray × Unit))))) → (List (Int × (Int × (Int × (ByteArray × Unit))))) → Option Bool)  : FnIs (env_transomref06_Same g31 ) 14 Go.Proofs.Try.f14 := ⟨Go.Proofs.Try.func14, rfl, rfl, rfl, by decide⟩
theorem transomref06_Same.envok (g31 : (List (Int × (Int × (Int × (ByteArray × Unit))))) → (List (Int × (Int × (Int × (ByteArray × Unit))))) → Option Bool)  (h31 : CtOK Go.Proofs.Try.prog 31 (ct_transomref04_SameRow g31)) : EnvOK (env_transomref06_Same g31 ).toEnv := by
  intro f c h
  simp only [env_transomref06_Same] at h
  split at h
  · rename_i e; subst e; cases h; exact h31
  simp at h
theorem transomref06_Same.ok (k : Nat) : CtOK Go.Proofs.Try.prog 14 (ct_transomref06_Same (transomref06_Same.f k)) := by
  refine ct_of_ev (E := env_transomref06_Same (transomref04_SameRow.f k) ) (transomref06_Same.is _ ) (transomref06_Same.envok _  (transomref04_SameRow.ok k)) (fun s hs => by simp [env_transomref06_Same] at hs) rfl ?_
  intro tvs blks res h
  simp only [ct_transomref06_Same] at h
  split at h
  · refine (transomref06_Same.ev (transomref04_SameRow.f k)  _ _ ).trans ?_
    rw [transomref06_Same.c_bind]
    exact h
  · simp at h
end Go.Proofs.Ytlclhjdfbkenfaa.Aev
