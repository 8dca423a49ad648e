/- By a program of this session (AEV): functions of the program as plain functions, and that the machine does what they say. -/
import Derived.Test.YtchlbajnmhffpaaAevW
import Derived.Test.YtchlbajnmhffpaaProg
import Derived.Laws.Externs
import Derived.Lib.Bytealg
import Derived.Test.YtchlbajnmhffpaaF10
import Derived.Test.YtchlbajnmhffpaaF11
import Derived.Test.YtchlbajnmhffpaaF16
namespace Go.Proofs.Ytchlbajnmhffpaa.Aev
set_option linter.unusedVariables false
set_option linter.unusedSimpArgs false
set_option maxRecDepth 100000
set_option maxHeartbeats 4000000
open Go
/-! ### transomref36_guess: function 30 -/
def ct_transomref36_guess (g : ByteArray → Option (Int × Int × Int × ByteArray)) : Ct where
  nin := 0
  mv := []
  F := fun tvs blks {β} K => match tvs, blks with
    | [.v (.one (.d .str a0))], [] => (g a0).bind fun r => K ⟨.v (.agg [(.d (.int .i64) r.1), (.d (.int .i64) r.2.1), (.d (.int .u64) r.2.2.1), (.d .str r.2.2.2)]), []⟩
    | _, _ => none
  legit := fun tvs blks K r h => by
    split at h
    · obtain ⟨x, hx, hk⟩ := Option.bind_eq_some_iff.1 h
      refine ⟨_, ?_, hk⟩
      simp only [hx, Option.bind_some]
    · simp at h
def seg_transomref36_guess_0 (g : ByteArray → Bool → Int → Int → Int → ByteArray → Option (Int × Int × Int × ByteArray)) : Seg where
  path := [1, 3, 1, 3, 1, 3, 1, 4, 0, 1]
  prep := []
  keep := [0, 2, 23]
  F := fun tvs blks {β} K => match tvs, blks with
    | [.v (.one (.d .str x0)), .v (.one (.ptr 0 0)), .v (.one (.d .bool x1))], [some (.box [(.d (.int .i64) x2), (.d (.int .i64) x3), (.d (.int .u64) x4), (.d .str x5)])] => (g x0 x1 x2 x3 x4 x5).bind fun r => K ⟨.v (.agg [(.d (.int .i64) r.1), (.d (.int .i64) r.2.1), (.d (.int .u64) r.2.2.1), (.d .str r.2.2.2)]), []⟩
    | _, _ => none
  legit := fun tvs blks K r h => by
    split at h
    · obtain ⟨x, hx, hk⟩ := Option.bind_eq_some_iff.1 h
      refine ⟨_, ?_, hk⟩
      simp only [hx, Option.bind_some]
    · simp at h
def seg_transomref36_guess_1 (g : ByteArray → Int → Int → Int → Int → ByteArray → Int → Int → Int → ByteArray → Option (Int × Int × Int × ByteArray)) : Seg where
  path := [4, 1, 0, 1, 2, 1, 3, 1, 3, 1, 3, 1, 4, 0, 1]
  prep := []
  keep := [0, 2, 3, 4]
  F := fun tvs blks {β} K => match tvs, blks with
    | [.v (.one (.d .str x0)), .v (.one (.ptr 0 0)), .v (.one (.ptr 1 0)), .v (.one (.d (.int .i64) x1))], [some (.box [(.d (.int .i64) x2), (.d (.int .i64) x3), (.d (.int .u64) x4), (.d .str x5)]), some (.box [(.d (.int .i64) x6), (.d (.int .i64) x7), (.d (.int .u64) x8), (.d .str x9)])] => (g x0 x1 x2 x3 x4 x5 x6 x7 x8 x9).bind fun r => K ⟨.v (.agg [(.d (.int .i64) r.1), (.d (.int .i64) r.2.1), (.d (.int .u64) r.2.2.1), (.d .str r.2.2.2)]), []⟩
    | _, _ => none
  legit := fun tvs blks K r h => by
    split at h
    · obtain ⟨x, hx, hk⟩ := Option.bind_eq_some_iff.1 h
      refine ⟨_, ?_, hk⟩
      simp only [hx, Option.bind_some]
    · simp at h
def seg_transomref36_guess_2 (g : ByteArray → Bool → Int → Int → Int → ByteArray → Option (Int × Int × Int × ByteArray)) : Seg where
  path := [1, 3, 1, 3, 1, 3, 1, 3, 1, 4, 0, 1]
  prep := []
  keep := [0, 2, 49]
  F := fun tvs blks {β} K => match tvs, blks with
    | [.v (.one (.d .str x0)), .v (.one (.ptr 0 0)), .v (.one (.d .bool x1))], [some (.box [(.d (.int .i64) x2), (.d (.int .i64) x3), (.d (.int .u64) x4), (.d .str x5)])] => (g x0 x1 x2 x3 x4 x5).bind fun r => K ⟨.v (.agg [(.d (.int .i64) r.1), (.d (.int .i64) r.2.1), (.d (.int .u64) r.2.2.1), (.d .str r.2.2.2)]), []⟩
    | _, _ => none
  legit := fun tvs blks K r h => by
    split at h
    · obtain ⟨x, hx, hk⟩ := Option.bind_eq_some_iff.1 h
      refine ⟨_, ?_, hk⟩
      simp only [hx, Option.bind_some]
    · simp at h
def seg_transomref36_guess_3 (g : ByteArray → Bool → Int → Int → Int → ByteArray → Option (Int × Int × Int × ByteArray)) : Seg where
  path := [1, 3, 1, 3, 1, 3, 1, 3, 1, 3, 1, 4, 0, 1]
  prep := []
  keep := [0, 2, 66]
  F := fun tvs blks {β} K => match tvs, blks with
    | [.v (.one (.d .str x0)), .v (.one (.ptr 0 0)), .v (.one (.d .bool x1))], [some (.box [(.d (.int .i64) x2), (.d (.int .i64) x3), (.d (.int .u64) x4), (.d .str x5)])] => (g x0 x1 x2 x3 x4 x5).bind fun r => K ⟨.v (.agg [(.d (.int .i64) r.1), (.d (.int .i64) r.2.1), (.d (.int .u64) r.2.2.1), (.d .str r.2.2.2)]), []⟩
    | _, _ => none
  legit := fun tvs blks K r h => by
    split at h
    · obtain ⟨x, hx, hk⟩ := Option.bind_eq_some_iff.1 h
      refine ⟨_, ?_, hk⟩
      simp only [hx, Option.bind_some]
    · simp at h
noncomputable def env_transomref36_guess (g13 : ByteArray → Option (ByteArray × Int)) (g23 : Int → Option Int) (g38 : ByteArray → Option (Int × Int)) (s0 : ByteArray → Bool → Int → Int → Int → ByteArray → Option (Int × Int × Int × ByteArray)) (s1 : ByteArray → Int → Int → Int → Int → ByteArray → Int → Int → Int → ByteArray → Option (Int × Int × Int × ByteArray)) (s2 : ByteArray → Bool → Int → Int → Int → ByteArray → Option (Int × Int × Int × ByteArray)) (s3 : ByteArray → Bool → Int → Int → Int → ByteArray → Option (Int × Int × Int × ByteArray)) : FEnv := { P := Go.Proofs.Try.prog, ct := fun m => if m = 13 then some (ct_transomref36_Unquote g13) else if m = 23 then some (ct_transomref36_value g23) else if m = 38 then some (ct_transomref07_Number g38) else none, N := 89, body := Go.Proofs.Try.f30.body.getD .skip, rvs := [.cell 2 38], rts := [38], nin := 0, rmv := [], segs := [seg_transomref36_guess_0 s0, seg_transomref36_guess_1 s1, seg_transomref36_guess_2 s2, seg_transomref36_guess_3 s3] }
def transomref36_guess.c {β : Type} (g13 : ByteArray → Option (ByteArray × Int)) (g23 : Int → Option Int) (g38 : ByteArray → Option (Int × Int)) (s0 : ByteArray → Bool → Int → Int → Int → ByteArray → Option (Int × Int × Int × ByteArray)) (s1 : ByteArray → Int → Int → Int → Int → ByteArray → Int → Int → Int → ByteArray → Option (Int × Int × Int × ByteArray)) (s2 : ByteArray → Bool → Int → Int → Int → ByteArray → Option (Int × Int × Int × ByteArray)) (s3 : ByteArray → Bool → Int → Int → Int → ByteArray → Option (Int × Int × Int × ByteArray)) (a0 : ByteArray) (ret : (Int × Int × Int × ByteArray) → Option β) : Option β := (bif ((ByteArray.toList a0) == (ByteArray.toList (ByteArray.mk (List.toArray [(110 : UInt8), (117 : UInt8), (108 : UInt8), (108 : UInt8)])))) then (ret ((0 : Int), (0 : Int), (0 : Int), (ByteArray.mk (List.toArray [])))) else (bif ((ByteArray.toList a0) == (ByteArray.toList (ByteArray.mk (List.toArray [(116 : UInt8), (114 : UInt8), (117 : UInt8), (101 : UInt8)])))) then (ret ((1 : Int), (1 : Int), (0 : Int), (ByteArray.mk (List.toArray [])))) else (bif ((ByteArray.toList a0) == (ByteArray.toList (ByteArray.mk (List.toArray [(102 : UInt8), (97 : UInt8), (108 : UInt8), (115 : UInt8), (101 : UInt8)])))) then (ret ((1 : Int), (0 : Int), (0 : Int), (ByteArray.mk (List.toArray [])))) else (bif (((ByteArray.size a0) : Int) == (17 : Int)) then (bif (true && (decide ((0 : Int) < ((ByteArray.size a0) : Int)))) then ((s0 a0 ((bt a0 (0 : Int)) == (114 : Int)) (0 : Int) (0 : Int) (0 : Int) (ByteArray.mk (List.toArray []))).bind ret) else none) else ((s0 a0 false (0 : Int) (0 : Int) (0 : Int) (ByteArray.mk (List.toArray []))).bind ret)))))
def transomref36_guess.s0c {β : Type} (g13 : ByteArray → Option (ByteArray × Int)) (g23 : Int → Option Int) (g38 : ByteArray → Option (Int × Int)) (s0 : ByteArray → Bool → Int → Int → Int → ByteArray → Option (Int × Int × Int × ByteArray)) (s1 : ByteArray → Int → Int → Int → Int → ByteArray → Int → Int → Int → ByteArray → Option (Int × Int × Int × ByteArray)) (s2 : ByteArray → Bool → Int → Int → Int → ByteArray → Option (Int × Int × Int × ByteArray)) (s3 : ByteArray → Bool → Int → Int → Int → ByteArray → Option (Int × Int × Int × ByteArray)) (x0 : ByteArray) (x1 : Bool) (x2 : Int) (x3 : Int) (x4 : Int) (x5 : ByteArray) (ret : (Int × Int × Int × ByteArray) → Option β) : Option β := (bif x1 then ((s1 x0 (1 : Int) x2 x3 x4 x5 (3 : Int) (0 : Int) (0 : Int) (ByteArray.mk (List.toArray []))).bind ret) else (bif (decide (((ByteArray.size x0) : Int) > (0 : Int))) then (bif (true && (decide ((0 : Int) < ((ByteArray.size x0) : Int)))) then ((s2 x0 ((bt x0 (0 : Int)) == (98 : Int)) x2 x3 x4 x5).bind ret) else none) else ((s2 x0 false x2 x3 x4 x5).bind ret)))
def transomref36_guess.s1c {β : Type} (g13 : ByteArray → Option (ByteArray × Int)) (g23 : Int → Option Int) (g38 : ByteArray → Option (Int × Int)) (s0 : ByteArray → Bool → Int → Int → Int → ByteArray → Option (Int × Int × Int × ByteArray)) (s1 : ByteArray → Int → Int → Int → Int → ByteArray → Int → Int → Int → ByteArray → Option (Int × Int × Int × ByteArray)) (s2 : ByteArray → Bool → Int → Int → Int → ByteArray → Option (Int × Int × Int × ByteArray)) (s3 : ByteArray → Bool → Int → Int → Int → ByteArray → Option (Int × Int × Int × ByteArray)) (x0 : ByteArray) (x1 : Int) (x2 : Int) (x3 : Int) (x4 : Int) (x5 : ByteArray) (x6 : Int) (x7 : Int) (x8 : Int) (x9 : ByteArray) (ret : (Int × Int × Int × ByteArray) → Option β) : Option β := (bif (decide (x1 < (17 : Int))) then (bif ((decide ((0 : Int) ≤ x1)) && (decide (x1 < ((ByteArray.size x0) : Int)))) then ((g23 (bt x0 x1)).bind fun r0 => ((s1 x0 (IntKind.wrap IntKind.i64 (x1 + (1 : Int))) x2 x3 x4 x5 x6 x7 (IntKind.wrap IntKind.u64 ((BitVec.toNat ((BitVec.ofInt (64 : Nat) (IntKind.wrap IntKind.u64 (x8 * (16 : Int)))) ||| (BitVec.ofInt (64 : Nat) (IntKind.wrap IntKind.u64 (if ((0 : Int) > r0) then (0 : Int) else r0))))) : Int)) x9).bind ret)) else none) else (ret (x6, x7, x8, x9)))
def transomref36_guess.s2c {β : Type} (g13 : ByteArray → Option (ByteArray × Int)) (g23 : Int → Option Int) (g38 : ByteArray → Option (Int × Int)) (s0 : ByteArray → Bool → Int → Int → Int → ByteArray → Option (Int × Int × Int × ByteArray)) (s1 : ByteArray → Int → Int → Int → Int → ByteArray → Int → Int → Int → ByteArray → Option (Int × Int × Int × ByteArray)) (s2 : ByteArray → Bool → Int → Int → Int → ByteArray → Option (Int × Int × Int × ByteArray)) (s3 : ByteArray → Bool → Int → Int → Int → ByteArray → Option (Int × Int × Int × ByteArray)) (x0 : ByteArray) (x1 : Bool) (x2 : Int) (x3 : Int) (x4 : Int) (x5 : ByteArray) (ret : (Int × Int × Int × ByteArray) → Option β) : Option β := (bif x1 then (bif ((true && (decide ((1 : Int) ≤ ((ByteArray.size x0) : Int)))) && (decide (((ByteArray.size x0) : Int) ≤ ((ByteArray.size x0) : Int)))) then ((g13 (ByteArray.extract x0 (1 : Nat) (Int.toNat ((ByteArray.size x0) : Int)))).bind fun r0 => (ret ((4 : Int), (0 : Int), (0 : Int), r0.1))) else none) else (bif (decide (((ByteArray.size x0) : Int) > (0 : Int))) then (bif (true && (decide ((0 : Int) < ((ByteArray.size x0) : Int)))) then ((s3 x0 ((bt x0 (0 : Int)) == (34 : Int)) x2 x3 x4 x5).bind ret) else none) else ((s3 x0 false x2 x3 x4 x5).bind ret)))
def transomref36_guess.s3c {β : Type} (g13 : ByteArray → Option (ByteArray × Int)) (g23 : Int → Option Int) (g38 : ByteArray → Option (Int × Int)) (s0 : ByteArray → Bool → Int → Int → Int → ByteArray → Option (Int × Int × Int × ByteArray)) (s1 : ByteArray → Int → Int → Int → Int → ByteArray → Int → Int → Int → ByteArray → Option (Int × Int × Int × ByteArray)) (s2 : ByteArray → Bool → Int → Int → Int → ByteArray → Option (Int × Int × Int × ByteArray)) (s3 : ByteArray → Bool → Int → Int → Int → ByteArray → Option (Int × Int × Int × ByteArray)) (x0 : ByteArray) (x1 : Bool) (x2 : Int) (x3 : Int) (x4 : Int) (x5 : ByteArray) (ret : (Int × Int × Int × ByteArray) → Option β) : Option β := (bif x1 then ((g13 x0).bind fun r0 => (ret ((5 : Int), (0 : Int), (0 : Int), r0.1))) else ((g38 x0).bind fun r1 => (ret ((2 : Int), r1.1, (0 : Int), (ByteArray.mk (List.toArray []))))))
theorem transomref36_guess.c_bind {β : Type} (g13 : ByteArray → Option (ByteArray × Int)) (g23 : Int → Option Int) (g38 : ByteArray → Option (Int × Int)) (s0 : ByteArray → Bool → Int → Int → Int → ByteArray → Option (Int × Int × Int × ByteArray)) (s1 : ByteArray → Int → Int → Int → Int → ByteArray → Int → Int → Int → ByteArray → Option (Int × Int × Int × ByteArray)) (s2 : ByteArray → Bool → Int → Int → Int → ByteArray → Option (Int × Int × Int × ByteArray)) (s3 : ByteArray → Bool → Int → Int → Int → ByteArray → Option (Int × Int × Int × ByteArray)) (a0 : ByteArray) (ret : (Int × Int × Int × ByteArray) → Option β) : transomref36_guess.c g13 g23 g38 s0 s1 s2 s3 a0 ret = (transomref36_guess.c g13 g23 g38 s0 s1 s2 s3 a0 some).bind ret := by
  simp only [transomref36_guess.c, bif_bind, sum_bind, Option.bind_assoc, Option.bind_some, Option.bind_none, Option.bind_fun_some]
theorem transomref36_guess.s0c_bind {β : Type} (g13 : ByteArray → Option (ByteArray × Int)) (g23 : Int → Option Int) (g38 : ByteArray → Option (Int × Int)) (s0 : ByteArray → Bool → Int → Int → Int → ByteArray → Option (Int × Int × Int × ByteArray)) (s1 : ByteArray → Int → Int → Int → Int → ByteArray → Int → Int → Int → ByteArray → Option (Int × Int × Int × ByteArray)) (s2 : ByteArray → Bool → Int → Int → Int → ByteArray → Option (Int × Int × Int × ByteArray)) (s3 : ByteArray → Bool → Int → Int → Int → ByteArray → Option (Int × Int × Int × ByteArray)) (x0 : ByteArray) (x1 : Bool) (x2 : Int) (x3 : Int) (x4 : Int) (x5 : ByteArray) (ret : (Int × Int × Int × ByteArray) → Option β) : transomref36_guess.s0c g13 g23 g38 s0 s1 s2 s3 x0 x1 x2 x3 x4 x5 ret = (transomref36_guess.s0c g13 g23 g38 s0 s1 s2 s3 x0 x1 x2 x3 x4 x5 some).bind ret := by
  simp only [transomref36_guess.s0c, bif_bind, sum_bind, Option.bind_assoc, Option.bind_some, Option.bind_none, Option.bind_fun_some]
theorem transomref36_guess.s1c_bind {β : Type} (g13 : ByteArray → Option (ByteArray × Int)) (g23 : Int → Option Int) (g38 : ByteArray → Option (Int × Int)) (s0 : ByteArray → Bool → Int → Int → Int → ByteArray → Option (Int × Int × Int × ByteArray)) (s1 : ByteArray → Int → Int → Int → Int → ByteArray → Int → Int → Int → ByteArray → Option (Int × Int × Int × ByteArray)) (s2 : ByteArray → Bool → Int → Int → Int → ByteArray → Option (Int × Int × Int × ByteArray)) (s3 : ByteArray → Bool → Int → Int → Int → ByteArray → Option (Int × Int × Int × ByteArray)) (x0 : ByteArray) (x1 : Int) (x2 : Int) (x3 : Int) (x4 : Int) (x5 : ByteArray) (x6 : Int) (x7 : Int) (x8 : Int) (x9 : ByteArray) (ret : (Int × Int × Int × ByteArray) → Option β) : transomref36_guess.s1c g13 g23 g38 s0 s1 s2 s3 x0 x1 x2 x3 x4 x5 x6 x7 x8 x9 ret = (transomref36_guess.s1c g13 g23 g38 s0 s1 s2 s3 x0 x1 x2 x3 x4 x5 x6 x7 x8 x9 some).bind ret := by
  simp only [transomref36_guess.s1c, bif_bind, sum_bind, Option.bind_assoc, Option.bind_some, Option.bind_none, Option.bind_fun_some]
theorem transomref36_guess.s2c_bind {β : Type} (g13 : ByteArray → Option (ByteArray × Int)) (g23 : Int → Option Int) (g38 : ByteArray → Option (Int × Int)) (s0 : ByteArray → Bool → Int → Int → Int → ByteArray → Option (Int × Int × Int × ByteArray)) (s1 : ByteArray → Int → Int → Int → Int → ByteArray → Int → Int → Int → ByteArray → Option (Int × Int × Int × ByteArray)) (s2 : ByteArray → Bool → Int → Int → Int → ByteArray → Option (Int × Int × Int × ByteArray)) (s3 : ByteArray → Bool → Int → Int → Int → ByteArray → Option (Int × Int × Int × ByteArray)) (x0 : ByteArray) (x1 : Bool) (x2 : Int) (x3 : Int) (x4 : Int) (x5 : ByteArray) (ret : (Int × Int × Int × ByteArray) → Option β) : transomref36_guess.s2c g13 g23 g38 s0 s1 s2 s3 x0 x1 x2 x3 x4 x5 ret = (transomref36_guess.s2c g13 g23 g38 s0 s1 s2 s3 x0 x1 x2 x3 x4 x5 some).bind ret := by
  simp only [transomref36_guess.s2c, bif_bind, sum_bind, Option.bind_assoc, Option.bind_some, Option.bind_none, Option.bind_fun_some]
theorem transomref36_guess.s3c_bind {β : Type} (g13 : ByteArray → Option (ByteArray × Int)) (g23 : Int → Option Int) (g38 : ByteArray → Option (Int × Int)) (s0 : ByteArray → Bool → Int → Int → Int → ByteArray → Option (Int × Int × Int × ByteArray)) (s1 : ByteArray → Int → Int → Int → Int → ByteArray → Int → Int → Int → ByteArray → Option (Int × Int × Int × ByteArray)) (s2 : ByteArray → Bool → Int → Int → Int → ByteArray → Option (Int × Int × Int × ByteArray)) (s3 : ByteArray → Bool → Int → Int → Int → ByteArray → Option (Int × Int × Int × ByteArray)) (x0 : ByteArray) (x1 : Bool) (x2 : Int) (x3 : Int) (x4 : Int) (x5 : ByteArray) (ret : (Int × Int × Int × ByteArray) → Option β) : transomref36_guess.s3c g13 g23 g38 s0 s1 s2 s3 x0 x1 x2 x3 x4 x5 ret = (transomref36_guess.s3c g13 g23 g38 s0 s1 s2 s3 x0 x1 x2 x3 x4 x5 some).bind ret := by
  simp only [transomref36_guess.s3c, bif_bind, sum_bind, Option.bind_assoc, Option.bind_some, Option.bind_none, Option.bind_fun_some]
theorem transomref36_guess.ev (g13 : ByteArray → Option (ByteArray × Int)) (g23 : Int → Option Int) (g38 : ByteArray → Option (Int × Int)) (s0 : ByteArray → Bool → Int → Int → Int → ByteArray → Option (Int × Int × Int × ByteArray)) (s1 : ByteArray → Int → Int → Int → Int → ByteArray → Int → Int → Int → ByteArray → Option (Int × Int × Int × ByteArray)) (s2 : ByteArray → Bool → Int → Int → Int → ByteArray → Option (Int × Int × Int × ByteArray)) (s3 : ByteArray → Bool → Int → Int → Int → ByteArray → Option (Int × Int × Int × ByteArray)) (a0 : ByteArray) : evAt (env_transomref36_guess g13 g23 g38 s0 s1 s2 s3) [] [0] [.v (.one (.d .str a0))] [] some = transomref36_guess.c g13 g23 g38 s0 s1 s2 s3 a0 (fun r => some ⟨.v (.agg [(.d (.int .i64) r.1), (.d (.int .i64) r.2.1), (.d (.int .u64) r.2.2.1), (.d .str r.2.2.2)]), []⟩) := by
  kernel_rfl
theorem transomref36_guess.s0_ev (g13 : ByteArray → Option (ByteArray × Int)) (g23 : Int → Option Int) (g38 : ByteArray → Option (Int × Int)) (s0 : ByteArray → Bool → Int → Int → Int → ByteArray → Option (Int × Int × Int × ByteArray)) (s1 : ByteArray → Int → Int → Int → Int → ByteArray → Int → Int → Int → ByteArray → Option (Int × Int × Int × ByteArray)) (s2 : ByteArray → Bool → Int → Int → Int → ByteArray → Option (Int × Int × Int × ByteArray)) (s3 : ByteArray → Bool → Int → Int → Int → ByteArray → Option (Int × Int × Int × ByteArray)) (x0 : ByteArray) (x1 : Bool) (x2 : Int) (x3 : Int) (x4 : Int) (x5 : ByteArray) : evAt (env_transomref36_guess g13 g23 g38 s0 s1 s2 s3) [1, 3, 1, 3, 1, 3, 1, 4, 0, 1] [0, 2, 23] [.v (.one (.d .str x0)), .v (.one (.ptr 0 0)), .v (.one (.d .bool x1))] [some (.box [(.d (.int .i64) x2), (.d (.int .i64) x3), (.d (.int .u64) x4), (.d .str x5)])] some = transomref36_guess.s0c g13 g23 g38 s0 s1 s2 s3 x0 x1 x2 x3 x4 x5 (fun r => some ⟨.v (.agg [(.d (.int .i64) r.1), (.d (.int .i64) r.2.1), (.d (.int .u64) r.2.2.1), (.d .str r.2.2.2)]), []⟩) := by
  kernel_rfl
theorem transomref36_guess.s1_ev (g13 : ByteArray → Option (ByteArray × Int)) (g23 : Int → Option Int) (g38 : ByteArray → Option (Int × Int)) (s0 : ByteArray → Bool → Int → Int → Int → ByteArray → Option (Int × Int × Int × ByteArray)) (s1 : ByteArray → Int → Int → Int → Int → ByteArray → Int → Int → Int → ByteArray → Option (Int × Int × Int × ByteArray)) (s2 : ByteArray → Bool → Int → Int → Int → ByteArray → Option (Int × Int × Int × ByteArray)) (s3 : ByteArray → Bool → Int → Int → Int → ByteArray → Option (Int × Int × Int × ByteArray)) (x0 : ByteArray) (x1 : Int) (x2 : Int) (x3 : Int) (x4 : Int) (x5 : ByteArray) (x6 : Int) (x7 : Int) (x8 : Int) (x9 : ByteArray) : evAt (env_transomref36_guess g13 g23 g38 s0 s1 s2 s3) [4, 1, 0, 1, 2, 1, 3, 1, 3, 1, 3, 1, 4, 0, 1] [0, 2, 3, 4] [.v (.one (.d .str x0)), .v (.one (.ptr 0 0)), .v (.one (.ptr 1 0)), .v (.one (.d (.int .i64) x1))] [some (.box [(.d (.int .i64) x2), (.d (.int .i64) x3), (.d (.int .u64) x4), (.d .str x5)]), some (.box [(.d (.int .i64) x6), (.d (.int .i64) x7), (.d (.int .u64) x8), (.d .str x9)])] some = transomref36_guess.s1c g13 g23 g38 s0 s1 s2 s3 x0 x1 x2 x3 x4 x5 x6 x7 x8 x9 (fun r => some ⟨.v (.agg [(.d (.int .i64) r.1), (.d (.int .i64) r.2.1), (.d (.int .u64) r.2.2.1), (.d .str r.2.2.2)]), []⟩) := by
  kernel_rfl
theorem transomref36_guess.s2_ev (g13 : ByteArray → Option (ByteArray × Int)) (g23 : Int → Option Int) (g38 : ByteArray → Option (Int × Int)) (s0 : ByteArray → Bool → Int → Int → Int → ByteArray → Option (Int × Int × Int × ByteArray)) (s1 : ByteArray → Int → Int → Int → Int → ByteArray → Int → Int → Int → ByteArray → Option (Int × Int × Int × ByteArray)) (s2 : ByteArray → Bool → Int → Int → Int → ByteArray → Option (Int × Int × Int × ByteArray)) (s3 : ByteArray → Bool → Int → Int → Int → ByteArray → Option (Int × Int × Int × ByteArray)) (x0 : ByteArray) (x1 : Bool) (x2 : Int) (x3 : Int) (x4 : Int) (x5 : ByteArray) : evAt (env_transomref36_guess g13 g23 g38 s0 s1 s2 s3) [1, 3, 1, 3, 1, 3, 1, 3, 1, 4, 0, 1] [0, 2, 49] [.v (.one (.d .str x0)), .v (.one (.ptr 0 0)), .v (.one (.d .bool x1))] [some (.box [(.d (.int .i64) x2), (.d (.int .i64) x3), (.d (.int .u64) x4), (.d .str x5)])] some = transomref36_guess.s2c g13 g23 g38 s0 s1 s2 s3 x0 x1 x2 x3 x4 x5 (fun r => some ⟨.v (.agg [(.d (.int .i64) r.1), (.d (.int .i64) r.2.1), (.d (.int .u64) r.2.2.1), (.d .str r.2.2.2)]), []⟩) := by
  kernel_rfl
theorem transomref36_guess.s3_ev (g13 : ByteArray → Option (ByteArray × Int)) (g23 : Int → Option Int) (g38 : ByteArray → Option (Int × Int)) (s0 : ByteArray → Bool → Int → Int → Int → ByteArray → Option (Int × Int × Int × ByteArray)) (s1 : ByteArray → Int → Int → Int → Int → ByteArray → Int → Int → Int → ByteArray → Option (Int × Int × Int × ByteArray)) (s2 : ByteArray → Bool → Int → Int → Int → ByteArray → Option (Int × Int × Int × ByteArray)) (s3 : ByteArray → Bool → Int → Int → Int → ByteArray → Option (Int × Int × Int × ByteArray)) (x0 : ByteArray) (x1 : Bool) (x2 : Int) (x3 : Int) (x4 : Int) (x5 : ByteArray) : evAt (env_transomref36_guess g13 g23 g38 s0 s1 s2 s3) [1, 3, 1, 3, 1, 3, 1, 3, 1, 3, 1, 4, 0, 1] [0, 2, 66] [.v (.one (.d .str x0)), .v (.one (.ptr 0 0)), .v (.one (.d .bool x1))] [some (.box [(.d (.int .i64) x2), (.d (.int .i64) x3), (.d (.int .u64) x4), (.d .str x5)])] some = transomref36_guess.s3c g13 g23 g38 s0 s1 s2 s3 x0 x1 x2 x3 x4 x5 (fun r => some ⟨.v (.agg [(.d (.int .i64) r.1), (.d (.int .i64) r.2.1), (.d (.int .u64) r.2.2.1), (.d .str r.2.2.2)]), []⟩) := by
  kernel_rfl
mutual
def transomref36_guess.s0 : Nat → ByteArray → Bool → Int → Int → Int → ByteArray → Option (Int × Int × Int × ByteArray)
  | 0, _, _, _, _, _, _ => none
  | k + 1, x0, x1, x2, x3, x4, x5 => transomref36_guess.s0c (transomref36_Unquote.f k) (transomref36_value.f k) (transomref07_Number.f k) (transomref36_guess.s0 k) (transomref36_guess.s1 k) (transomref36_guess.s2 k) (transomref36_guess.s3 k) x0 x1 x2 x3 x4 x5 some
def transomref36_guess.s1 : Nat → ByteArray → Int → Int → Int → Int → ByteArray → Int → Int → Int → ByteArray → Option (Int × Int × Int × ByteArray)
  | 0, _, _, _, _, _, _, _, _, _, _ => none
  | k + 1, x0, x1, x2, x3, x4, x5, x6, x7, x8, x9 => transomref36_guess.s1c (transomref36_Unquote.f k) (transomref36_value.f k) (transomref07_Number.f k) (transomref36_guess.s0 k) (transomref36_guess.s1 k) (transomref36_guess.s2 k) (transomref36_guess.s3 k) x0 x1 x2 x3 x4 x5 x6 x7 x8 x9 some
def transomref36_guess.s2 : Nat → ByteArray → Bool → Int → Int → Int → ByteArray → Option (Int × Int × Int × ByteArray)
  | 0, _, _, _, _, _, _ => none
  | k + 1, x0, x1, x2, x3, x4, x5 => transomref36_guess.s2c (transomref36_Unquote.f k) (transomref36_value.f k) (transomref07_Number.f k) (transomref36_guess.s0 k) (transomref36_guess.s1 k) (transomref36_guess.s2 k) (transomref36_guess.s3 k) x0 x1 x2 x3 x4 x5 some
def transomref36_guess.s3 : Nat → ByteArray → Bool → Int → Int → Int → ByteArray → Option (Int × Int × Int × ByteArray)
  | 0, _, _, _, _, _, _ => none
  | k + 1, x0, x1, x2, x3, x4, x5 => transomref36_guess.s3c (transomref36_Unquote.f k) (transomref36_value.f k) (transomref07_Number.f k) (transomref36_guess.s0 k) (transomref36_guess.s1 k) (transomref36_guess.s2 k) (transomref36_guess.s3 k) x0 x1 x2 x3 x4 x5 some
end
def transomref36_guess.f (k : Nat) (a0 : ByteArray) : Option (Int × Int × Int × ByteArray) := transomref36_guess.c (transomref36_Unquote.f k) (transomref36_value.f k) (transomref07_Number.f k) (transomref36_guess.s0 k) (transomref36_guess.s1 k) (transomref36_guess.s2 k) (transomref36_guess.s3 k) a0 some
theorem transomref36_guess.is (g13 : ByteArray → Option (ByteArray × Int)) (g23 : Int → Option Int) (g38 : ByteArray → Option (Int × Int)) (s0 : ByteArray → Bool → Int → Int → Int → ByteArray → Option (Int × Int × Int × ByteArray)) (s1 : ByteArray → Int → Int → Int → Int → ByteArray → Int → Int → Int → ByteArray → Option (Int × Int × Int × ByteArray)) (s2 : ByteArray → Bool → Int → Int → Int → ByteArray → Option (Int × Int × Int × ByteArray)) (s3 : ByteArray → Bool → Int → Int → Int → ByteArray → Option (Int × Int × Int × ByteArray)) : FnIs (env_transomref36_guess g13 g23 g38 s0 s1 s2 s3) 30 Go.Proofs.Try.f30 := ⟨Go.Proofs.Try.func30, rfl, rfl, rfl, by decide⟩
theorem transomref36_guess.envok (g13 : ByteArray → Option (ByteArray × Int)) (g23 : Int → Option Int) (g38 : ByteArray → Option (Int × Int)) (s0 : ByteArray → Bool → Int → Int → Int → ByteArray → Option (Int × Int × Int × ByteArray)) (s1 : ByteArray → Int → Int → Int → Int → ByteArray → Int → Int → Int → ByteArray → Option (Int × Int × Int × ByteArray)) (s2 : ByteArray → Bool → Int → Int → Int → ByteArray → Option (Int × Int × Int × ByteArray)) (s3 : ByteArray → Bool → Int → Int → Int → ByteArray → Option (Int × Int × Int × ByteArray)) (h13 : CtOK Go.Proofs.Try.prog 13 (ct_transomref36_Unquote g13)) (h23 : CtOK Go.Proofs.Try.prog 23 (ct_transomref36_value g23)) (h38 : CtOK Go.Proofs.Try.prog 38 (ct_transomref07_Number g38)) : EnvOK (env_transomref36_guess g13 g23 g38 s0 s1 s2 s3).toEnv := by
  intro f c h
  simp only [env_transomref36_guess] at h
  split at h
  · rename_i e; subst e; cases h; exact h13
  split at h
  · rename_i e; subst e; cases h; exact h23
  split at h
  · rename_i e; subst e; cases h; exact h38
  simp at h
theorem transomref36_guess.segs_ok : ∀ k, ∀ s ∈ (env_transomref36_guess (transomref36_Unquote.f k) (transomref36_value.f k) (transomref07_Number.f k) (transomref36_guess.s0 k) (transomref36_guess.s1 k) (transomref36_guess.s2 k) (transomref36_guess.s3 k)).segs, SegOK (env_transomref36_guess (transomref36_Unquote.f k) (transomref36_value.f k) (transomref07_Number.f k) (transomref36_guess.s0 k) (transomref36_guess.s1 k) (transomref36_guess.s2 k) (transomref36_guess.s3 k)) Go.Proofs.Try.f30 s
  | 0 => by
    intro s hs
    simp only [env_transomref36_guess, List.mem_cons, List.not_mem_nil, or_false] at hs
    rcases hs with rfl | rfl | rfl | rfl
    · intro tvs blks res h; exfalso; simp only [seg_transomref36_guess_0] at h; split at h <;> simp [transomref36_guess.s0] at h
    · intro tvs blks res h; exfalso; simp only [seg_transomref36_guess_1] at h; split at h <;> simp [transomref36_guess.s1] at h
    · intro tvs blks res h; exfalso; simp only [seg_transomref36_guess_2] at h; split at h <;> simp [transomref36_guess.s2] at h
    · intro tvs blks res h; exfalso; simp only [seg_transomref36_guess_3] at h; split at h <;> simp [transomref36_guess.s3] at h
  | k + 1 => by
    have ih := transomref36_guess.segs_ok k
    intro s hs
    simp only [env_transomref36_guess, List.mem_cons, List.not_mem_nil, or_false] at hs
    rcases hs with rfl | rfl | rfl | rfl
    · refine seg_of_ev (E := env_transomref36_guess (transomref36_Unquote.f k) (transomref36_value.f k) (transomref07_Number.f k) (transomref36_guess.s0 k) (transomref36_guess.s1 k) (transomref36_guess.s2 k) (transomref36_guess.s3 k)) (transomref36_guess.envok _ _ _ _ _ _ _  (transomref36_Unquote.ok k) (transomref36_value.ok k) (transomref07_Number.ok k)) ⟨(transomref36_guess.is (transomref36_Unquote.f k) (transomref36_value.f k) (transomref07_Number.f k) (transomref36_guess.s0 k) (transomref36_guess.s1 k) (transomref36_guess.s2 k) (transomref36_guess.s3 k)).rvs⟩ ih ?_
      intro tvs blks res h
      simp only [seg_transomref36_guess_0] at h
      split at h
      · refine (transomref36_guess.s0_ev (transomref36_Unquote.f k) (transomref36_value.f k) (transomref07_Number.f k) (transomref36_guess.s0 k) (transomref36_guess.s1 k) (transomref36_guess.s2 k) (transomref36_guess.s3 k) _ _ _ _ _ _ ).trans ?_
        rw [transomref36_guess.s0c_bind]
        exact h
      · simp at h
    · refine seg_of_ev (E := env_transomref36_guess (transomref36_Unquote.f k) (transomref36_value.f k) (transomref07_Number.f k) (transomref36_guess.s0 k) (transomref36_guess.s1 k) (transomref36_guess.s2 k) (transomref36_guess.s3 k)) (transomref36_guess.envok _ _ _ _ _ _ _  (transomref36_Unquote.ok k) (transomref36_value.ok k) (transomref07_Number.ok k)) ⟨(transomref36_guess.is (transomref36_Unquote.f k) (transomref36_value.f k) (transomref07_Number.f k) (transomref36_guess.s0 k) (transomref36_guess.s1 k) (transomref36_guess.s2 k) (transomref36_guess.s3 k)).rvs⟩ ih ?_
      intro tvs blks res h
      simp only [seg_transomref36_guess_1] at h
      split at h
      · refine (transomref36_guess.s1_ev (transomref36_Unquote.f k) (transomref36_value.f k) (transomref07_Number.f k) (transomref36_guess.s0 k) (transomref36_guess.s1 k) (transomref36_guess.s2 k) (transomref36_guess.s3 k) _ _ _ _ _ _ _ _ _ _ ).trans ?_
        rw [transomref36_guess.s1c_bind]
        exact h
      · simp at h
    · refine seg_of_ev (E := env_transomref36_guess (transomref36_Unquote.f k) (transomref36_value.f k) (transomref07_Number.f k) (transomref36_guess.s0 k) (transomref36_guess.s1 k) (transomref36_guess.s2 k) (transomref36_guess.s3 k)) (transomref36_guess.envok _ _ _ _ _ _ _  (transomref36_Unquote.ok k) (transomref36_value.ok k) (transomref07_Number.ok k)) ⟨(transomref36_guess.is (transomref36_Unquote.f k) (transomref36_value.f k) (transomref07_Number.f k) (transomref36_guess.s0 k) (transomref36_guess.s1 k) (transomref36_guess.s2 k) (transomref36_guess.s3 k)).rvs⟩ ih ?_
      intro tvs blks res h
      simp only [seg_transomref36_guess_2] at h
      split at h
      · refine (transomref36_guess.s2_ev (transomref36_Unquote.f k) (transomref36_value.f k) (transomref07_Number.f k) (transomref36_guess.s0 k) (transomref36_guess.s1 k) (transomref36_guess.s2 k) (transomref36_guess.s3 k) _ _ _ _ _ _ ).trans ?_
        rw [transomref36_guess.s2c_bind]
        exact h
      · simp at h
    · refine seg_of_ev (E := env_transomref36_guess (transomref36_Unquote.f k) (transomref36_value.f k) (transomref07_Number.f k) (transomref36_guess.s0 k) (transomref36_guess.s1 k) (transomref36_guess.s2 k) (transomref36_guess.s3 k)) (transomref36_guess.envok _ _ _ _ _ _ _  (transomref36_Unquote.ok k) (transomref36_value.ok k) (transomref07_Number.ok k)) ⟨(transomref36_guess.is (transomref36_Unquote.f k) (transomref36_value.f k) (transomref07_Number.f k) (transomref36_guess.s0 k) (transomref36_guess.s1 k) (transomref36_guess.s2 k) (transomref36_guess.s3 k)).rvs⟩ ih ?_
      intro tvs blks res h
      simp only [seg_transomref36_guess_3] at h
      split at h
      · refine (transomref36_guess.s3_ev (transomref36_Unquote.f k) (transomref36_value.f k) (transomref07_Number.f k) (transomref36_guess.s0 k) (transomref36_guess.s1 k) (transomref36_guess.s2 k) (transomref36_guess.s3 k) _ _ _ _ _ _ ).trans ?_
        rw [transomref36_guess.s3c_bind]
        exact h
      · simp at h
theorem transomref36_guess.ok (k : Nat) : CtOK Go.Proofs.Try.prog 30 (ct_transomref36_guess (transomref36_guess.f k)) := by
  refine ct_of_ev (E := env_transomref36_guess (transomref36_Unquote.f k) (transomref36_value.f k) (transomref07_Number.f k) (transomref36_guess.s0 k) (transomref36_guess.s1 k) (transomref36_guess.s2 k) (transomref36_guess.s3 k)) (transomref36_guess.is _ _ _ _ _ _ _ ) (transomref36_guess.envok _ _ _ _ _ _ _  (transomref36_Unquote.ok k) (transomref36_value.ok k) (transomref07_Number.ok k)) (transomref36_guess.segs_ok k) rfl ?_
  intro tvs blks res h
  simp only [ct_transomref36_guess] at h
  split at h
  · refine (transomref36_guess.ev (transomref36_Unquote.f k) (transomref36_value.f k) (transomref07_Number.f k) (transomref36_guess.s0 k) (transomref36_guess.s1 k) (transomref36_guess.s2 k) (transomref36_guess.s3 k) _ ).trans ?_
    rw [transomref36_guess.c_bind]
    exact h
  · simp at h

/-! ### transomref36_Value: function 19 -/
def ct_transomref36_Value (g : ByteArray → Option (Int × Int × Int × ByteArray × Int)) : Ct where
  nin := 0
  mv := []
  F := fun tvs blks {β} K => match tvs, blks with
    | [.v (.one (.d .str a0))], [] => (g a0).bind fun r => K ⟨.tup [(.agg [(.d (.int .i64) r.1), (.d (.int .i64) r.2.1), (.d (.int .u64) r.2.2.1), (.d .str r.2.2.2.1)]), (.one (.d (.int .i64) r.2.2.2.2))], []⟩
    | _, _ => none
  legit := fun tvs blks K r h => by
    split at h
    · obtain ⟨x, hx, hk⟩ := Option.bind_eq_some_iff.1 h
      refine ⟨_, ?_, hk⟩
      simp only [hx, Option.bind_some]
    · simp at h
noncomputable def env_transomref36_Value (g17 : Int → Int → Int → ByteArray → Option (ByteArray × Int)) (g30 : ByteArray → Option (Int × Int × Int × ByteArray))  : FEnv := { P := Go.Proofs.Try.prog, ct := fun m => if m = 17 then some (ct_transomref36_Show g17) else if m = 30 then some (ct_transomref36_guess g30) else none, N := 23, body := Go.Proofs.Try.f19.body.getD .skip, rvs := [.cell 2 38, .tmp 3], rts := [38, 3], nin := 0, rmv := [], segs := [] }
def transomref36_Value.c {β : Type} (g17 : Int → Int → Int → ByteArray → Option (ByteArray × Int)) (g30 : ByteArray → Option (Int × Int × Int × ByteArray))  (a0 : ByteArray) (ret : (Int × Int × Int × ByteArray × Int) → Option β) : Option β := ((g30 a0).bind fun r0 => ((g17 r0.1 r0.2.1 r0.2.2.1 r0.2.2.2).bind fun r1 => (bif (r1.2 != (0 : Int)) then (ret ((0 : Int), (0 : Int), (0 : Int), (ByteArray.mk (List.toArray [])), (7 : Int))) else (bif (!((ByteArray.toList r1.1) == (ByteArray.toList a0))) then (ret ((0 : Int), (0 : Int), (0 : Int), (ByteArray.mk (List.toArray [])), (7 : Int))) else (ret (r0.1, r0.2.1, r0.2.2.1, r0.2.2.2, (0 : Int)))))))
theorem transomref36_Value.c_bind {β : Type} (g17 : Int → Int → Int → ByteArray → Option (ByteArray × Int)) (g30 : ByteArray → Option (Int × Int × Int × ByteArray))  (a0 : ByteArray) (ret : (Int × Int × Int × ByteArray × Int) → Option β) : transomref36_Value.c g17 g30  a0 ret = (transomref36_Value.c g17 g30  a0 some).bind ret := by
  simp only [transomref36_Value.c, bif_bind, sum_bind, Option.bind_assoc, Option.bind_some, Option.bind_none, Option.bind_fun_some]
theorem transomref36_Value.ev (g17 : Int → Int → Int → ByteArray → Option (ByteArray × Int)) (g30 : ByteArray → Option (Int × Int × Int × ByteArray))  (a0 : ByteArray) : evAt (env_transomref36_Value g17 g30 ) [] [0] [.v (.one (.d .str a0))] [] some = transomref36_Value.c g17 g30  a0 (fun r => some ⟨.tup [(.agg [(.d (.int .i64) r.1), (.d (.int .i64) r.2.1), (.d (.int .u64) r.2.2.1), (.d .str r.2.2.2.1)]), (.one (.d (.int .i64) r.2.2.2.2))], []⟩) := by
  kernel_rfl
def transomref36_Value.f (k : Nat) (a0 : ByteArray) : Option (Int × Int × Int × ByteArray × Int) := transomref36_Value.c (transomref36_Show.f k) (transomref36_guess.f k)  a0 some
theorem transomref36_Value.is (g17 : Int → Int → Int → ByteArray → Option (ByteArray × Int)) (g30 : ByteArray → Option (Int × Int × Int × ByteArray))  : FnIs (env_transomref36_Value g17 g30 ) 19 Go.Proofs.Try.f19 := ⟨Go.Proofs.Try.func19, rfl, rfl, rfl, by decide⟩
theorem transomref36_Value.envok (g17 : Int → Int → Int → ByteArray → Option (ByteArray × Int)) (g30 : ByteArray → Option (Int × Int × Int × ByteArray))  (h17 : CtOK Go.Proofs.Try.prog 17 (ct_transomref36_Show g17)) (h30 : CtOK Go.Proofs.Try.prog 30 (ct_transomref36_guess g30)) : EnvOK (env_transomref36_Value g17 g30 ).toEnv := by
  intro f c h
  simp only [env_transomref36_Value] at h
  split at h
  · rename_i e; subst e; cases h; exact h17
  split at h
  · rename_i e; subst e; cases h; exact h30
  simp at h
theorem transomref36_Value.ok (k : Nat) : CtOK Go.Proofs.Try.prog 19 (ct_transomref36_Value (transomref36_Value.f k)) := by
  refine ct_of_ev (E := env_transomref36_Value (transomref36_Show.f k) (transomref36_guess.f k) ) (transomref36_Value.is _ _ ) (transomref36_Value.envok _ _  (transomref36_Show.ok k) (transomref36_guess.ok k)) (fun s hs => by simp [env_transomref36_Value] at hs) rfl ?_
  intro tvs blks res h
  simp only [ct_transomref36_Value] at h
  split at h
  · refine (transomref36_Value.ev (transomref36_Show.f k) (transomref36_guess.f k)  _ ).trans ?_
    rw [transomref36_Value.c_bind]
    exact h
  · simp at h

/-! ### transomref04_Same: function 20 -/
def ct_transomref04_Same (g : Int → Int → Int → ByteArray → Int → Int → Int → ByteArray → Option Bool) : Ct where
  nin := 0
  mv := []
  F := fun tvs blks {β} K => match tvs, blks with
    | [.v (.agg [(.d (.int .i64) a0), (.d (.int .i64) a1), (.d (.int .u64) a2), (.d .str a3)]), .v (.agg [(.d (.int .i64) a4), (.d (.int .i64) a5), (.d (.int .u64) a6), (.d .str a7)])], [] => (g a0 a1 a2 a3 a4 a5 a6 a7).bind fun r => K ⟨.v (.one (.d .bool r)), []⟩
    | _, _ => none
  legit := fun tvs blks K r h => by
    split at h
    · obtain ⟨x, hx, hk⟩ := Option.bind_eq_some_iff.1 h
      refine ⟨_, ?_, hk⟩
      simp only [hx, Option.bind_some]
    · simp at h
noncomputable def env_transomref04_Same   : FEnv := { P := Go.Proofs.Try.prog, ct := fun m => none, N := 31, body := Go.Proofs.Try.f20.body.getD .skip, rvs := [.tmp 4], rts := [4], nin := 0, rmv := [], segs := [] }
def transomref04_Same.c {β : Type}   (a0 : Int) (a1 : Int) (a2 : Int) (a3 : ByteArray) (a4 : Int) (a5 : Int) (a6 : Int) (a7 : ByteArray) (ret : Bool → Option β) : Option β := (bif (a0 == a4) then (bif (a1 == a5) then (bif (a2 == a6) then (ret (((ByteArray.toList a3) == (ByteArray.toList a7)))) else (ret (false))) else (ret (false))) else (ret (false)))
theorem transomref04_Same.c_bind {β : Type}   (a0 : Int) (a1 : Int) (a2 : Int) (a3 : ByteArray) (a4 : Int) (a5 : Int) (a6 : Int) (a7 : ByteArray) (ret : Bool → Option β) : transomref04_Same.c   a0 a1 a2 a3 a4 a5 a6 a7 ret = (transomref04_Same.c   a0 a1 a2 a3 a4 a5 a6 a7 some).bind ret := by
  simp only [transomref04_Same.c, bif_bind, sum_bind, Option.bind_assoc, Option.bind_some, Option.bind_none, Option.bind_fun_some]
theorem transomref04_Same.ev   (a0 : Int) (a1 : Int) (a2 : Int) (a3 : ByteArray) (a4 : Int) (a5 : Int) (a6 : Int) (a7 : ByteArray) : evAt (env_transomref04_Same  ) [] [0, 1] [.v (.agg [(.d (.int .i64) a0), (.d (.int .i64) a1), (.d (.int .u64) a2), (.d .str a3)]), .v (.agg [(.d (.int .i64) a4), (.d (.int .i64) a5), (.d (.int .u64) a6), (.d .str a7)])] [] some = transomref04_Same.c   a0 a1 a2 a3 a4 a5 a6 a7 (fun r => some ⟨.v (.one (.d .bool r)), []⟩) := by
  kernel_rfl
def transomref04_Same.f (k : Nat) (a0 : Int) (a1 : Int) (a2 : Int) (a3 : ByteArray) (a4 : Int) (a5 : Int) (a6 : Int) (a7 : ByteArray) : Option Bool := transomref04_Same.c   a0 a1 a2 a3 a4 a5 a6 a7 some
theorem transomref04_Same.is   : FnIs (env_transomref04_Same  ) 20 Go.Proofs.Try.f20 := ⟨Go.Proofs.Try.func20, rfl, rfl, rfl, by decide⟩
theorem transomref04_Same.envok    : EnvOK (env_transomref04_Same  ).toEnv := by
  intro f c h
  simp only [env_transomref04_Same] at h
  simp at h
theorem transomref04_Same.ok (k : Nat) : CtOK Go.Proofs.Try.prog 20 (ct_transomref04_Same (transomref04_Same.f k)) := by
  refine ct_of_ev (E := env_transomref04_Same  ) (transomref04_Same.is ) (transomref04_Same.envok  ) (fun s hs => by simp [env_transomref04_Same] at hs) rfl ?_
  intro tvs blks res h
  simp only [ct_transomref04_Same] at h
  split at h
  · refine (transomref04_Same.ev   _ _ _ _ _ _ _ _ ).trans ?_
    rw [transomref04_Same.c_bind]
    exact h
  · simp at h
end Go.Proofs.Ytchlbajnmhffpaa.Aev
