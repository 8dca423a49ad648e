/- By a program of this session (AEV): functions of the program as plain functions, and that the machine does what they say. -/
import Derived.Test.YtndkobhclggeiaaAevW
import Derived.Test.YtndkobhclggeiaaProg
import Derived.Laws.Externs
import Derived.Lib.Bytealg
import Derived.Test.YtndkobhclggeiaaF11
namespace Go.Proofs.Ytndkobhclggeiaa.Aev
set_option linter.unusedVariables false
set_option linter.unusedSimpArgs false
set_option maxRecDepth 100000
set_option maxHeartbeats 4000000
open Go
/-! ### transomref07_fromText: function 33 -/
def ct_transomref07_fromText (g : ByteArray → Int → Option (Int × Int × Int × ByteArray × Int)) : Ct where
  nin := 0
  mv := []
  F := fun tvs blks {β} K => match tvs, blks with
    | [.v (.one (.d .str a0)), .v (.one (.d (.int .i64) a1))], [] => (g a0 a1).bind fun r => K ⟨.tup [(.agg [(.d (.int .i64) r.1), (.d (.int .i64) r.2.1), (.d (.int .u64) r.2.2.1), (.d .str r.2.2.2.1)]), (.one (.d (.int .i64) r.2.2.2.2))], []⟩
    | _, _ => none
  legit := fun tvs blks K r h => by
    split at h
    · obtain ⟨x, hx, hk⟩ := Option.bind_eq_some_iff.1 h
      refine ⟨_, ?_, hk⟩
      simp only [hx, Option.bind_some]
    · simp at h
def seg_transomref07_fromText_0 (g : ByteArray → Int → Bool → Int → Int → Int → ByteArray → Option (Int × Int × Int × ByteArray × Int)) : Seg where
  path := [1, 3, 1, 4, 0, 1]
  prep := []
  keep := [0, 1, 4, 14]
  F := fun tvs blks {β} K => match tvs, blks with
    | [.v (.one (.d .str x0)), .v (.one (.d (.int .i64) x1)), .v (.one (.ptr 0 0)), .v (.one (.d .bool x2))], [some (.box [(.d (.int .i64) x3), (.d (.int .i64) x4), (.d (.int .u64) x5), (.d .str x6)])] => (g x0 x1 x2 x3 x4 x5 x6).bind fun r => K ⟨.tup [(.agg [(.d (.int .i64) r.1), (.d (.int .i64) r.2.1), (.d (.int .u64) r.2.2.1), (.d .str r.2.2.2.1)]), (.one (.d (.int .i64) r.2.2.2.2))], []⟩
    | _, _ => none
  legit := fun tvs blks K r h => by
    split at h
    · obtain ⟨x, hx, hk⟩ := Option.bind_eq_some_iff.1 h
      refine ⟨_, ?_, hk⟩
      simp only [hx, Option.bind_some]
    · simp at h
def seg_transomref07_fromText_1 (g : ByteArray → Int → Bool → Int → Int → Int → ByteArray → Option (Int × Int × Int × ByteArray × Int)) : Seg where
  path := [1, 3, 1, 3, 1, 4, 0, 1]
  prep := []
  keep := [0, 1, 4, 23]
  F := fun tvs blks {β} K => match tvs, blks with
    | [.v (.one (.d .str x0)), .v (.one (.d (.int .i64) x1)), .v (.one (.ptr 0 0)), .v (.one (.d .bool x2))], [some (.box [(.d (.int .i64) x3), (.d (.int .i64) x4), (.d (.int .u64) x5), (.d .str x6)])] => (g x0 x1 x2 x3 x4 x5 x6).bind fun r => K ⟨.tup [(.agg [(.d (.int .i64) r.1), (.d (.int .i64) r.2.1), (.d (.int .u64) r.2.2.1), (.d .str r.2.2.2.1)]), (.one (.d (.int .i64) r.2.2.2.2))], []⟩
    | _, _ => none
  legit := fun tvs blks K r h => by
    split at h
    · obtain ⟨x, hx, hk⟩ := Option.bind_eq_some_iff.1 h
      refine ⟨_, ?_, hk⟩
      simp only [hx, Option.bind_some]
    · simp at h
def seg_transomref07_fromText_2 (g : ByteArray → Int → Int → Int → Int → ByteArray → Option (Int × Int × Int × ByteArray × Int)) : Seg where
  path := [1, 1]
  prep := []
  keep := [0, 1, 4]
  F := fun tvs blks {β} K => match tvs, blks with
    | [.v (.one (.d .str x0)), .v (.one (.d (.int .i64) x1)), .v (.one (.ptr 0 0))], [some (.box [(.d (.int .i64) x2), (.d (.int .i64) x3), (.d (.int .u64) x4), (.d .str x5)])] => (g x0 x1 x2 x3 x4 x5).bind fun r => K ⟨.tup [(.agg [(.d (.int .i64) r.1), (.d (.int .i64) r.2.1), (.d (.int .u64) r.2.2.1), (.d .str r.2.2.2.1)]), (.one (.d (.int .i64) r.2.2.2.2))], []⟩
    | _, _ => none
  legit := fun tvs blks K r h => by
    split at h
    · obtain ⟨x, hx, hk⟩ := Option.bind_eq_some_iff.1 h
      refine ⟨_, ?_, hk⟩
      simp only [hx, Option.bind_some]
    · simp at h
noncomputable def env_transomref07_fromText (g15 : ByteArray → Option (Int × Int)) (s0 : ByteArray → Int → Bool → Int → Int → Int → ByteArray → Option (Int × Int × Int × ByteArray × Int)) (s1 : ByteArray → Int → Bool → Int → Int → Int → ByteArray → Option (Int × Int × Int × ByteArray × Int)) (s2 : ByteArray → Int → Int → Int → Int → ByteArray → Option (Int × Int × Int × ByteArray × Int)) : FEnv := { P := Go.Proofs.Try.prog, ct := fun m => if m = 15 then some (ct_transomref07_Number g15) else none, N := 48, body := Go.Proofs.Try.f33.body.getD .skip, rvs := [.cell 4 24, .tmp 5], rts := [24, 3], nin := 0, rmv := [], segs := [seg_transomref07_fromText_0 s0, seg_transomref07_fromText_1 s1, seg_transomref07_fromText_2 s2] }
def transomref07_fromText.c {β : Type} (g15 : ByteArray → Option (Int × Int)) (s0 : ByteArray → Int → Bool → Int → Int → Int → ByteArray → Option (Int × Int × Int × ByteArray × Int)) (s1 : ByteArray → Int → Bool → Int → Int → Int → ByteArray → Option (Int × Int × Int × ByteArray × Int)) (s2 : ByteArray → Int → Int → Int → Int → ByteArray → Option (Int × Int × Int × ByteArray × Int)) (a0 : ByteArray) (a1 : Int) (ret : (Int × Int × Int × ByteArray × Int) → Option β) : Option β := (bif (a1 == (4 : Int)) then (ret (a1, (0 : Int), (0 : Int), a0, (0 : Int))) else (bif (a1 == (1 : Int)) then ((s0 a0 a1 ((ByteArray.toList a0) == (ByteArray.toList (ByteArray.mk (List.toArray [(116 : UInt8), (114 : UInt8), (117 : UInt8), (101 : UInt8)])))) (0 : Int) (0 : Int) (0 : Int) (ByteArray.mk (List.toArray []))).bind ret) else ((s0 a0 a1 false (0 : Int) (0 : Int) (0 : Int) (ByteArray.mk (List.toArray []))).bind ret)))
def transomref07_fromText.s0c {β : Type} (g15 : ByteArray → Option (Int × Int)) (s0 : ByteArray → Int → Bool → Int → Int → Int → ByteArray → Option (Int × Int × Int × ByteArray × Int)) (s1 : ByteArray → Int → Bool → Int → Int → Int → ByteArray → Option (Int × Int × Int × ByteArray × Int)) (s2 : ByteArray → Int → Int → Int → Int → ByteArray → Option (Int × Int × Int × ByteArray × Int)) (x0 : ByteArray) (x1 : Int) (x2 : Bool) (x3 : Int) (x4 : Int) (x5 : Int) (x6 : ByteArray) (ret : (Int × Int × Int × ByteArray × Int) → Option β) : Option β := (bif x2 then (ret (x1, (1 : Int), (0 : Int), (ByteArray.mk (List.toArray [])), (0 : Int))) else (bif (x1 == (1 : Int)) then ((s1 x0 x1 ((ByteArray.toList x0) == (ByteArray.toList (ByteArray.mk (List.toArray [(102 : UInt8), (97 : UInt8), (108 : UInt8), (115 : UInt8), (101 : UInt8)])))) x3 x4 x5 x6).bind ret) else ((s1 x0 x1 false x3 x4 x5 x6).bind ret)))
def transomref07_fromText.s1c {β : Type} (g15 : ByteArray → Option (Int × Int)) (s0 : ByteArray → Int → Bool → Int → Int → Int → ByteArray → Option (Int × Int × Int × ByteArray × Int)) (s1 : ByteArray → Int → Bool → Int → Int → Int → ByteArray → Option (Int × Int × Int × ByteArray × Int)) (s2 : ByteArray → Int → Int → Int → Int → ByteArray → Option (Int × Int × Int × ByteArray × Int)) (x0 : ByteArray) (x1 : Int) (x2 : Bool) (x3 : Int) (x4 : Int) (x5 : Int) (x6 : ByteArray) (ret : (Int × Int × Int × ByteArray × Int) → Option β) : Option β := (bif x2 then (ret (x1, (0 : Int), (0 : Int), (ByteArray.mk (List.toArray [])), (0 : Int))) else (bif (x1 == (1 : Int)) then (ret ((0 : Int), (0 : Int), (0 : Int), (ByteArray.mk (List.toArray [])), (7 : Int))) else ((s2 x0 x1 x3 x4 x5 x6).bind ret)))
def transomref07_fromText.s2c {β : Type} (g15 : ByteArray → Option (Int × Int)) (s0 : ByteArray → Int → Bool → Int → Int → Int → ByteArray → Option (Int × Int × Int × ByteArray × Int)) (s1 : ByteArray → Int → Bool → Int → Int → Int → ByteArray → Option (Int × Int × Int × ByteArray × Int)) (s2 : ByteArray → Int → Int → Int → Int → ByteArray → Option (Int × Int × Int × ByteArray × Int)) (x0 : ByteArray) (x1 : Int) (x2 : Int) (x3 : Int) (x4 : Int) (x5 : ByteArray) (ret : (Int × Int × Int × ByteArray × Int) → Option β) : Option β := ((g15 x0).bind fun r0 => (bif (r0.2 != (0 : Int)) then (ret ((0 : Int), (0 : Int), (0 : Int), (ByteArray.mk (List.toArray [])), r0.2)) else (ret (x1, r0.1, (0 : Int), (ByteArray.mk (List.toArray [])), (0 : Int)))))
theorem transomref07_fromText.c_bind {β : Type} (g15 : ByteArray → Option (Int × Int)) (s0 : ByteArray → Int → Bool → Int → Int → Int → ByteArray → Option (Int × Int × Int × ByteArray × Int)) (s1 : ByteArray → Int → Bool → Int → Int → Int → ByteArray → Option (Int × Int × Int × ByteArray × Int)) (s2 : ByteArray → Int → Int → Int → Int → ByteArray → Option (Int × Int × Int × ByteArray × Int)) (a0 : ByteArray) (a1 : Int) (ret : (Int × Int × Int × ByteArray × Int) → Option β) : transomref07_fromText.c g15 s0 s1 s2 a0 a1 ret = (transomref07_fromText.c g15 s0 s1 s2 a0 a1 some).bind ret := by
  simp only [transomref07_fromText.c, bif_bind, sum_bind, Option.bind_assoc, Option.bind_some, Option.bind_none, Option.bind_fun_some]
theorem transomref07_fromText.s0c_bind {β : Type} (g15 : ByteArray → Option (Int × Int)) (s0 : ByteArray → Int → Bool → Int → Int → Int → ByteArray → Option (Int × Int × Int × ByteArray × Int)) (s1 : ByteArray → Int → Bool → Int → Int → Int → ByteArray → Option (Int × Int × Int × ByteArray × Int)) (s2 : ByteArray → Int → Int → Int → Int → ByteArray → Option (Int × Int × Int × ByteArray × Int)) (x0 : ByteArray) (x1 : Int) (x2 : Bool) (x3 : Int) (x4 : Int) (x5 : Int) (x6 : ByteArray) (ret : (Int × Int × Int × ByteArray × Int) → Option β) : transomref07_fromText.s0c g15 s0 s1 s2 x0 x1 x2 x3 x4 x5 x6 ret = (transomref07_fromText.s0c g15 s0 s1 s2 x0 x1 x2 x3 x4 x5 x6 some).bind ret := by
  simp only [transomref07_fromText.s0c, bif_bind, sum_bind, Option.bind_assoc, Option.bind_some, Option.bind_none, Option.bind_fun_some]
theorem transomref07_fromText.s1c_bind {β : Type} (g15 : ByteArray → Option (Int × Int)) (s0 : ByteArray → Int → Bool → Int → Int → Int → ByteArray → Option (Int × Int × Int × ByteArray × Int)) (s1 : ByteArray → Int → Bool → Int → Int → Int → ByteArray → Option (Int × Int × Int × ByteArray × Int)) (s2 : ByteArray → Int → Int → Int → Int → ByteArray → Option (Int × Int × Int × ByteArray × Int)) (x0 : ByteArray) (x1 : Int) (x2 : Bool) (x3 : Int) (x4 : Int) (x5 : Int) (x6 : ByteArray) (ret : (Int × Int × Int × ByteArray × Int) → Option β) : transomref07_fromText.s1c g15 s0 s1 s2 x0 x1 x2 x3 x4 x5 x6 ret = (transomref07_fromText.s1c g15 s0 s1 s2 x0 x1 x2 x3 x4 x5 x6 some).bind ret := by
  simp only [transomref07_fromText.s1c, bif_bind, sum_bind, Option.bind_assoc, Option.bind_some, Option.bind_none, Option.bind_fun_some]
theorem transomref07_fromText.s2c_bind {β : Type} (g15 : ByteArray → Option (Int × Int)) (s0 : ByteArray → Int → Bool → Int → Int → Int → ByteArray → Option (Int × Int × Int × ByteArray × Int)) (s1 : ByteArray → Int → Bool → Int → Int → Int → ByteArray → Option (Int × Int × Int × ByteArray × Int)) (s2 : ByteArray → Int → Int → Int → Int → ByteArray → Option (Int × Int × Int × ByteArray × Int)) (x0 : ByteArray) (x1 : Int) (x2 : Int) (x3 : Int) (x4 : Int) (x5 : ByteArray) (ret : (Int × Int × Int × ByteArray × Int) → Option β) : transomref07_fromText.s2c g15 s0 s1 s2 x0 x1 x2 x3 x4 x5 ret = (transomref07_fromText.s2c g15 s0 s1 s2 x0 x1 x2 x3 x4 x5 some).bind ret := by
  simp only [transomref07_fromText.s2c, bif_bind, sum_bind, Option.bind_assoc, Option.bind_some, Option.bind_none, Option.bind_fun_some]
theorem transomref07_fromText.ev (g15 : ByteArray → Option (Int × Int)) (s0 : ByteArray → Int → Bool → Int → Int → Int → ByteArray → Option (Int × Int × Int × ByteArray × Int)) (s1 : ByteArray → Int → Bool → Int → Int → Int → ByteArray → Option (Int × Int × Int × ByteArray × Int)) (s2 : ByteArray → Int → Int → Int → Int → ByteArray → Option (Int × Int × Int × ByteArray × Int)) (a0 : ByteArray) (a1 : Int) : evAt (env_transomref07_fromText g15 s0 s1 s2) [] [0, 1] [.v (.one (.d .str a0)), .v (.one (.d (.int .i64) a1))] [] some = transomref07_fromText.c g15 s0 s1 s2 a0 a1 (fun r => some ⟨.tup [(.agg [(.d (.int .i64) r.1), (.d (.int .i64) r.2.1), (.d (.int .u64) r.2.2.1), (.d .str r.2.2.2.1)]), (.one (.d (.int .i64) r.2.2.2.2))], []⟩) := by
  kernel_rfl
theorem transomref07_fromText.s0_ev (g15 : ByteArray → Option (Int × Int)) (s0 : ByteArray → Int → Bool → Int → Int → Int → ByteArray → Option (Int × Int × Int × ByteArray × Int)) (s1 : ByteArray → Int → Bool → Int → Int → Int → ByteArray → Option (Int × Int × Int × ByteArray × Int)) (s2 : ByteArray → Int → Int → Int → Int → ByteArray → Option (Int × Int × Int × ByteArray × Int)) (x0 : ByteArray) (x1 : Int) (x2 : Bool) (x3 : Int) (x4 : Int) (x5 : Int) (x6 : ByteArray) : evAt (env_transomref07_fromText g15 s0 s1 s2) [1, 3, 1, 4, 0, 1] [0, 1, 4, 14] [.v (.one (.d .str x0)), .v (.one (.d (.int .i64) x1)), .v (.one (.ptr 0 0)), .v (.one (.d .bool x2))] [some (.box [(.d (.int .i64) x3), (.d (.int .i64) x4), (.d (.int .u64) x5), (.d .str x6)])] some = transomref07_fromText.s0c g15 s0 s1 s2 x0 x1 x2 x3 x4 x5 x6 (fun r => some ⟨.tup [(.agg [(.d (.int .i64) r.1), (.d (.int .i64) r.2.1), (.d (.int .u64) r.2.2.1), (.d .str r.2.2.2.1)]), (.one (.d (.int .i64) r.2.2.2.2))], []⟩) := by
  kernel_rfl
theorem transomref07_fromText.s1_ev (g15 : ByteArray → Option (Int × Int)) (s0 : ByteArray → Int → Bool → Int → Int → Int → ByteArray → Option (Int × Int × Int × ByteArray × Int)) (s1 : ByteArray → Int → Bool → Int → Int → Int → ByteArray → Option (Int × Int × Int × ByteArray × Int)) (s2 : ByteArray → Int → Int → Int → Int → ByteArray → Option (Int × Int × Int × ByteArray × Int)) (x0 : ByteArray) (x1 : Int) (x2 : Bool) (x3 : Int) (x4 : Int) (x5 : Int) (x6 : ByteArray) : evAt (env_transomref07_fromText g15 s0 s1 s2) [1, 3, 1, 3, 1, 4, 0, 1] [0, 1, 4, 23] [.v (.one (.d .str x0)), .v (.one (.d (.int .i64) x1)), .v (.one (.ptr 0 0)), .v (.one (.d .bool x2))] [some (.box [(.d (.int .i64) x3), (.d (.int .i64) x4), (.d (.int .u64) x5), (.d .str x6)])] some = transomref07_fromText.s1c g15 s0 s1 s2 x0 x1 x2 x3 x4 x5 x6 (fun r => some ⟨.tup [(.agg [(.d (.int .i64) r.1), (.d (.int .i64) r.2.1), (.d (.int .u64) r.2.2.1), (.d .str r.2.2.2.1)]), (.one (.d (.int .i64) r.2.2.2.2))], []⟩) := by
  kernel_rfl
theorem transomref07_fromText.s2_ev (g15 : ByteArray → Option (Int × Int)) (s0 : ByteArray → Int → Bool → Int → Int → Int → ByteArray → Option (Int × Int × Int × ByteArray × Int)) (s1 : ByteArray → Int → Bool → Int → Int → Int → ByteArray → Option (Int × Int × Int × ByteArray × Int)) (s2 : ByteArray → Int → Int → Int → Int → ByteArray → Option (Int × Int × Int × ByteArray × Int)) (x0 : ByteArray) (x1 : Int) (x2 : Int) (x3 : Int) (x4 : Int) (x5 : ByteArray) : evAt (env_transomref07_fromText g15 s0 s1 s2) [1, 1] [0, 1, 4] [.v (.one (.d .str x0)), .v (.one (.d (.int .i64) x1)), .v (.one (.ptr 0 0))] [some (.box [(.d (.int .i64) x2), (.d (.int .i64) x3), (.d (.int .u64) x4), (.d .str x5)])] some = transomref07_fromText.s2c g15 s0 s1 s2 x0 x1 x2 x3 x4 x5 (fun r => some ⟨.tup [(.agg [(.d (.int .i64) r.1), (.d (.int .i64) r.2.1), (.d (.int .u64) r.2.2.1), (.d .str r.2.2.2.1)]), (.one (.d (.int .i64) r.2.2.2.2))], []⟩) := by
  kernel_rfl
mutual
def transomref07_fromText.s0 : Nat → ByteArray → Int → Bool → Int → Int → Int → ByteArray → Option (Int × Int × Int × ByteArray × Int)
  | 0, _, _, _, _, _, _, _ => none
  | k + 1, x0, x1, x2, x3, x4, x5, x6 => transomref07_fromText.s0c (transomref07_Number.f k) (transomref07_fromText.s0 k) (transomref07_fromText.s1 k) (transomref07_fromText.s2 k) x0 x1 x2 x3 x4 x5 x6 some
def transomref07_fromText.s1 : Nat → ByteArray → Int → Bool → Int → Int → Int → ByteArray → Option (Int × Int × Int × ByteArray × Int)
  | 0, _, _, _, _, _, _, _ => none
  | k + 1, x0, x1, x2, x3, x4, x5, x6 => transomref07_fromText.s1c (transomref07_Number.f k) (transomref07_fromText.s0 k) (transomref07_fromText.s1 k) (transomref07_fromText.s2 k) x0 x1 x2 x3 x4 x5 x6 some
def transomref07_fromText.s2 : Nat → ByteArray → Int → Int → Int → Int → ByteArray → Option (Int × Int × Int × ByteArray × Int)
  | 0, _, _, _, _, _, _ => none
  | k + 1, x0, x1, x2, x3, x4, x5 => transomref07_fromText.s2c (transomref07_Number.f k) (transomref07_fromText.s0 k) (transomref07_fromText.s1 k) (transomref07_fromText.s2 k) x0 x1 x2 x3 x4 x5 some
end
def transomref07_fromText.f (k : Nat) (a0 : ByteArray) (a1 : Int) : Option (Int × Int × Int × ByteArray × Int) := transomref07_fromText.c (transomref07_Number.f k) (transomref07_fromText.s0 k) (transomref07_fromText.s1 k) (transomref07_fromText.s2 k) a0 a1 some
theorem transomref07_fromText.is (g15 : ByteArray → Option (Int × Int)) (s0 : ByteArray → Int → Bool → Int → Int → Int → ByteArray → Option (Int × Int × Int × ByteArray × Int)) (s1 : ByteArray → Int → Bool → Int → Int → Int → ByteArray → Option (Int × Int × Int × ByteArray × Int)) (s2 : ByteArray → Int → Int → Int → Int → ByteArray → Option (Int × Int × Int × ByteArray × Int)) : FnIs (env_transomref07_fromText g15 s0 s1 s2) 33 Go.Proofs.Try.f33 := ⟨Go.Proofs.Try.func33, rfl, rfl, rfl, by decide⟩
theorem transomref07_fromText.envok (g15 : ByteArray → Option (Int × Int)) (s0 : ByteArray → Int → Bool → Int → Int → Int → ByteArray → Option (Int × Int × Int × ByteArray × Int)) (s1 : ByteArray → Int → Bool → Int → Int → Int → ByteArray → Option (Int × Int × Int × ByteArray × Int)) (s2 : ByteArray → Int → Int → Int → Int → ByteArray → Option (Int × Int × Int × ByteArray × Int)) (h15 : CtOK Go.Proofs.Try.prog 15 (ct_transomref07_Number g15)) : EnvOK (env_transomref07_fromText g15 s0 s1 s2).toEnv := by
  intro f c h
  simp only [env_transomref07_fromText] at h
  split at h
  · rename_i e; subst e; cases h; exact h15
  simp at h
theorem transomref07_fromText.segs_ok : ∀ k, ∀ s ∈ (env_transomref07_fromText (transomref07_Number.f k) (transomref07_fromText.s0 k) (transomref07_fromText.s1 k) (transomref07_fromText.s2 k)).segs, SegOK (env_transomref07_fromText (transomref07_Number.f k) (transomref07_fromText.s0 k) (transomref07_fromText.s1 k) (transomref07_fromText.s2 k)) Go.Proofs.Try.f33 s
  | 0 => by
    intro s hs
    simp only [env_transomref07_fromText, List.mem_cons, List.not_mem_nil, or_false] at hs
    rcases hs with rfl | rfl | rfl
    · intro tvs blks res h; exfalso; simp only [seg_transomref07_fromText_0] at h; split at h <;> simp [transomref07_fromText.s0] at h
    · intro tvs blks res h; exfalso; simp only [seg_transomref07_fromText_1] at h; split at h <;> simp [transomref07_fromText.s1] at h
    · intro tvs blks res h; exfalso; simp only [seg_transomref07_fromText_2] at h; split at h <;> simp [transomref07_fromText.s2] at h
  | k + 1 => by
    have ih := transomref07_fromText.segs_ok k
    intro s hs
    simp only [env_transomref07_fromText, List.mem_cons, List.not_mem_nil, or_false] at hs
    rcases hs with rfl | rfl | rfl
    · refine seg_of_ev (E := env_transomref07_fromText (transomref07_Number.f k) (transomref07_fromText.s0 k) (transomref07_fromText.s1 k) (transomref07_fromText.s2 k)) (transomref07_fromText.envok _ _ _ _  (transomref07_Number.ok k)) ⟨(transomref07_fromText.is (transomref07_Number.f k) (transomref07_fromText.s0 k) (transomref07_fromText.s1 k) (transomref07_fromText.s2 k)).rvs⟩ ih ?_
      intro tvs blks res h
      simp only [seg_transomref07_fromText_0] at h
      split at h
      · refine (transomref07_fromText.s0_ev (transomref07_Number.f k) (transomref07_fromText.s0 k) (transomref07_fromText.s1 k) (transomref07_fromText.s2 k) _ _ _ _ _ _ _ ).trans ?_
        rw [transomref07_fromText.s0c_bind]
        exact h
      · simp at h
    · refine seg_of_ev (E := env_transomref07_fromText (transomref07_Number.f k) (transomref07_fromText.s0 k) (transomref07_fromText.s1 k) (transomref07_fromText.s2 k)) (transomref07_fromText.envok _ _ _ _  (transomref07_Number.ok k)) ⟨(transomref07_fromText.is (transomref07_Number.f k) (transomref07_fromText.s0 k) (transomref07_fromText.s1 k) (transomref07_fromText.s2 k)).rvs⟩ ih ?_
      intro tvs blks res h
      simp only [seg_transomref07_fromText_1] at h
      split at h
      · refine (transomref07_fromText.s1_ev (transomref07_Number.f k) (transomref07_fromText.s0 k) (transomref07_fromText.s1 k) (transomref07_fromText.s2 k) _ _ _ _ _ _ _ ).trans ?_
        rw [transomref07_fromText.s1c_bind]
        exact h
      · simp at h
    · refine seg_of_ev (E := env_transomref07_fromText (transomref07_Number.f k) (transomref07_fromText.s0 k) (transomref07_fromText.s1 k) (transomref07_fromText.s2 k)) (transomref07_fromText.envok _ _ _ _  (transomref07_Number.ok k)) ⟨(transomref07_fromText.is (transomref07_Number.f k) (transomref07_fromText.s0 k) (transomref07_fromText.s1 k) (transomref07_fromText.s2 k)).rvs⟩ ih ?_
      intro tvs blks res h
      simp only [seg_transomref07_fromText_2] at h
      split at h
      · refine (transomref07_fromText.s2_ev (transomref07_Number.f k) (transomref07_fromText.s0 k) (transomref07_fromText.s1 k) (transomref07_fromText.s2 k) _ _ _ _ _ _ ).trans ?_
        rw [transomref07_fromText.s2c_bind]
        exact h
      · simp at h
theorem transomref07_fromText.ok (k : Nat) : CtOK Go.Proofs.Try.prog 33 (ct_transomref07_fromText (transomref07_fromText.f k)) := by
  refine ct_of_ev (E := env_transomref07_fromText (transomref07_Number.f k) (transomref07_fromText.s0 k) (transomref07_fromText.s1 k) (transomref07_fromText.s2 k)) (transomref07_fromText.is _ _ _ _ ) (transomref07_fromText.envok _ _ _ _  (transomref07_Number.ok k)) (transomref07_fromText.segs_ok k) rfl ?_
  intro tvs blks res h
  simp only [ct_transomref07_fromText] at h
  split at h
  · refine (transomref07_fromText.ev (transomref07_Number.f k) (transomref07_fromText.s0 k) (transomref07_fromText.s1 k) (transomref07_fromText.s2 k) _ _ ).trans ?_
    rw [transomref07_fromText.c_bind]
    exact h
  · simp at h
end Go.Proofs.Ytndkobhclggeiaa.Aev
