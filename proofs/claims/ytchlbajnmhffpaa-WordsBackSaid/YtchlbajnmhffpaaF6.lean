/- By a program of this session (AEV): functions of the program as plain functions, and that the machine does what they say. -/
import Derived.Test.YtchlbajnmhffpaaAevW
import Derived.Test.YtchlbajnmhffpaaProg
import Derived.Laws.Externs
import Derived.Lib.Bytealg
import Derived.Test.YtchlbajnmhffpaaF0
import Derived.Test.YtchlbajnmhffpaaF1
import Derived.Test.YtchlbajnmhffpaaF2
import Derived.Test.YtchlbajnmhffpaaF4
import Derived.Test.YtchlbajnmhffpaaF5
namespace Go.Proofs.Ytchlbajnmhffpaa.Aev
set_option linter.unusedVariables false
set_option linter.unusedSimpArgs false
set_option maxRecDepth 100000
set_option maxHeartbeats 4000000
open Go
/-! ### words_guess: function 29 -/
def ct_words_guess (g : ByteArray → Option (Int × Int × Int × ByteArray)) : Ct where
  nin := 0
  mv := []
  F := fun tvs blks {β} K => match tvs, blks with
    | [.v (.one (.d .str a0))], [] => (g a0).bind fun r => K ⟨.v (.agg [(.d (.int .i64) r.1), (.d (.int .i64) r.2.1), (.d (.int .u64) r.2.2.1), (.d .str r.2.2.2)]), []⟩
    | _, _ => none
  legit := fun tvs blks K r h => by
    split at h
    · obtain ⟨x, hx, hk⟩ := Option.bind_eq_some_iff.1 h
      refine ⟨_, ?_, hk⟩
      simp only [hx, Option.bind_some]
    · simp at h
def seg_words_guess_0 (g : ByteArray → Bool → Int → Int → Int → ByteArray → Int → Int → Int → ByteArray → Option (Int × Int × Int × ByteArray)) : Seg where
  path := [1, 3, 1, 4, 0, 1, 1]
  prep := []
  keep := [0, 2, 3, 15]
  F := fun tvs blks {β} K => match tvs, blks with
    | [.v (.one (.d .str x0)), .v (.one (.ptr 0 0)), .v (.one (.ptr 1 0)), .v (.one (.d .bool x1))], [some (.box [(.d (.int .i64) x2), (.d (.int .i64) x3), (.d (.int .u64) x4), (.d .str x5)]), some (.box [(.d (.int .i64) x6), (.d (.int .i64) x7), (.d (.int .u64) x8), (.d .str x9)])] => (g x0 x1 x2 x3 x4 x5 x6 x7 x8 x9).bind fun r => K ⟨.v (.agg [(.d (.int .i64) r.1), (.d (.int .i64) r.2.1), (.d (.int .u64) r.2.2.1), (.d .str r.2.2.2)]), []⟩
    | _, _ => none
  legit := fun tvs blks K r h => by
    split at h
    · obtain ⟨x, hx, hk⟩ := Option.bind_eq_some_iff.1 h
      refine ⟨_, ?_, hk⟩
      simp only [hx, Option.bind_some]
    · simp at h
def seg_words_guess_1 (g : ByteArray → Bool → Int → Int → Int → ByteArray → Int → Int → Int → ByteArray → Option (Int × Int × Int × ByteArray)) : Seg where
  path := [1, 3, 1, 3, 1, 4, 0, 1, 1]
  prep := []
  keep := [0, 2, 3, 26]
  F := fun tvs blks {β} K => match tvs, blks with
    | [.v (.one (.d .str x0)), .v (.one (.ptr 0 0)), .v (.one (.ptr 1 0)), .v (.one (.d .bool x1))], [some (.box [(.d (.int .i64) x2), (.d (.int .i64) x3), (.d (.int .u64) x4), (.d .str x5)]), some (.box [(.d (.int .i64) x6), (.d (.int .i64) x7), (.d (.int .u64) x8), (.d .str x9)])] => (g x0 x1 x2 x3 x4 x5 x6 x7 x8 x9).bind fun r => K ⟨.v (.agg [(.d (.int .i64) r.1), (.d (.int .i64) r.2.1), (.d (.int .u64) r.2.2.1), (.d .str r.2.2.2)]), []⟩
    | _, _ => none
  legit := fun tvs blks K r h => by
    split at h
    · obtain ⟨x, hx, hk⟩ := Option.bind_eq_some_iff.1 h
      refine ⟨_, ?_, hk⟩
      simp only [hx, Option.bind_some]
    · simp at h
def seg_words_guess_2 (g : ByteArray → Int → Int → Int → Int → ByteArray → Int → Int → Int → ByteArray → Option (Int × Int × Int × ByteArray)) : Seg where
  path := [4, 1, 1, 2, 1, 3, 1, 3, 1, 4, 0, 1, 1]
  prep := []
  keep := [0, 2, 3, 4]
  F := fun tvs blks {β} K => match tvs, blks with
    | [.v (.one (.d .str x0)), .v (.one (.ptr 0 0)), .v (.one (.ptr 1 0)), .v (.one (.d (.int .i64) x1))], [some (.box [(.d (.int .i64) x2), (.d (.int .i64) x3), (.d (.int .u64) x4), (.d .str x5)]), some (.box [(.d (.int .i64) x6), (.d (.int .i64) x7), (.d (.int .u64) x8), (.d .str x9)])] => (g x0 x1 x2 x3 x4 x5 x6 x7 x8 x9).bind fun r => K ⟨.v (.agg [(.d (.int .i64) r.1), (.d (.int .i64) r.2.1), (.d (.int .u64) r.2.2.1), (.d .str r.2.2.2)]), []⟩
    | _, _ => none
  legit := fun tvs blks K r h => by
    split at h
    · obtain ⟨x, hx, hk⟩ := Option.bind_eq_some_iff.1 h
      refine ⟨_, ?_, hk⟩
      simp only [hx, Option.bind_some]
    · simp at h
noncomputable def env_words_guess (g12 : ByteArray → Option (ByteArray × Int)) (g22 : ByteArray → Option Int) (g36 : ByteArray → ByteArray → Option Bool) (g37 : ByteArray → Option (Int × Int)) (s0 : ByteArray → Bool → Int → Int → Int → ByteArray → Int → Int → Int → ByteArray → Option (Int × Int × Int × ByteArray)) (s1 : ByteArray → Bool → Int → Int → Int → ByteArray → Int → Int → Int → ByteArray → Option (Int × Int × Int × ByteArray)) (s2 : ByteArray → Int → Int → Int → Int → ByteArray → Int → Int → Int → ByteArray → Option (Int × Int × Int × ByteArray)) : FEnv := { P := Go.Proofs.Try.prog, ct := fun m => if m = 12 then some (ct_words_Unquote g12) else if m = 22 then some (ct_words_hex g22) else if m = 36 then some (ct_strings_HasPrefix g36) else if m = 37 then some (ct_convert_Number g37) else none, N := 76, body := Go.Proofs.Try.f29.body.getD .skip, rvs := [.cell 2 38], rts := [38], nin := 0, rmv := [], segs := [seg_words_guess_0 s0, seg_words_guess_1 s1, seg_words_guess_2 s2] }
def words_guess.c {β : Type} (g12 : ByteArray → Option (ByteArray × Int)) (g22 : ByteArray → Option Int) (g36 : ByteArray → ByteArray → Option Bool) (g37 : ByteArray → Option (Int × Int)) (s0 : ByteArray → Bool → Int → Int → Int → ByteArray → Int → Int → Int → ByteArray → Option (Int × Int × Int × ByteArray)) (s1 : ByteArray → Bool → Int → Int → Int → ByteArray → Int → Int → Int → ByteArray → Option (Int × Int × Int × ByteArray)) (s2 : ByteArray → Int → Int → Int → Int → ByteArray → Int → Int → Int → ByteArray → Option (Int × Int × Int × ByteArray)) (a0 : ByteArray) (ret : (Int × Int × Int × ByteArray) → Option β) : Option β := (bif ((ByteArray.toList a0) == (ByteArray.toList (ByteArray.mk (List.toArray [(110 : UInt8), (117 : UInt8), (108 : UInt8), (108 : UInt8)])))) then (ret ((0 : Int), (0 : Int), (0 : Int), (ByteArray.mk (List.toArray [])))) else (bif ((ByteArray.toList a0) == (ByteArray.toList (ByteArray.mk (List.toArray [(102 : UInt8), (97 : UInt8), (108 : UInt8), (115 : UInt8), (101 : UInt8)])))) then ((s0 a0 true (0 : Int) (0 : Int) (0 : Int) (ByteArray.mk (List.toArray [])) (0 : Int) (0 : Int) (0 : Int) (ByteArray.mk (List.toArray []))).bind ret) else ((s0 a0 ((ByteArray.toList a0) == (ByteArray.toList (ByteArray.mk (List.toArray [(116 : UInt8), (114 : UInt8), (117 : UInt8), (101 : UInt8)])))) (0 : Int) (0 : Int) (0 : Int) (ByteArray.mk (List.toArray [])) (0 : Int) (0 : Int) (0 : Int) (ByteArray.mk (List.toArray []))).bind ret)))
def words_guess.s0c {β : Type} (g12 : ByteArray → Option (ByteArray × Int)) (g22 : ByteArray → Option Int) (g36 : ByteArray → ByteArray → Option Bool) (g37 : ByteArray → Option (Int × Int)) (s0 : ByteArray → Bool → Int → Int → Int → ByteArray → Int → Int → Int → ByteArray → Option (Int × Int × Int × ByteArray)) (s1 : ByteArray → Bool → Int → Int → Int → ByteArray → Int → Int → Int → ByteArray → Option (Int × Int × Int × ByteArray)) (s2 : ByteArray → Int → Int → Int → Int → ByteArray → Int → Int → Int → ByteArray → Option (Int × Int × Int × ByteArray)) (x0 : ByteArray) (x1 : Bool) (x2 : Int) (x3 : Int) (x4 : Int) (x5 : ByteArray) (x6 : Int) (x7 : Int) (x8 : Int) (x9 : ByteArray) (ret : (Int × Int × Int × ByteArray) → Option β) : Option β := (bif x1 then (bif ((ByteArray.toList x0) == (ByteArray.toList (ByteArray.mk (List.toArray [(116 : UInt8), (114 : UInt8), (117 : UInt8), (101 : UInt8)])))) then (ret ((1 : Int), (1 : Int), x8, x9)) else (ret ((1 : Int), x7, x8, x9))) else (bif (((ByteArray.size x0) : Int) == (17 : Int)) then (bif (true && (decide ((0 : Int) < ((ByteArray.size x0) : Int)))) then ((s1 x0 ((bt x0 (0 : Int)) == (114 : Int)) x2 x3 x4 x5 x6 x7 x8 x9).bind ret) else none) else ((s1 x0 false x2 x3 x4 x5 x6 x7 x8 x9).bind ret)))
def words_guess.s1c {β : Type} (g12 : ByteArray → Option (ByteArray × Int)) (g22 : ByteArray → Option Int) (g36 : ByteArray → ByteArray → Option Bool) (g37 : ByteArray → Option (Int × Int)) (s0 : ByteArray → Bool → Int → Int → Int → ByteArray → Int → Int → Int → ByteArray → Option (Int × Int × Int × ByteArray)) (s1 : ByteArray → Bool → Int → Int → Int → ByteArray → Int → Int → Int → ByteArray → Option (Int × Int × Int × ByteArray)) (s2 : ByteArray → Int → Int → Int → Int → ByteArray → Int → Int → Int → ByteArray → Option (Int × Int × Int × ByteArray)) (x0 : ByteArray) (x1 : Bool) (x2 : Int) (x3 : Int) (x4 : Int) (x5 : ByteArray) (x6 : Int) (x7 : Int) (x8 : Int) (x9 : ByteArray) (ret : (Int × Int × Int × ByteArray) → Option β) : Option β := (bif x1 then ((s2 x0 (1 : Int) x2 x3 x4 x5 (3 : Int) x7 x8 x9).bind ret) else ((g36 x0 (ByteArray.mk (List.toArray [(98 : UInt8)]))).bind fun r0 => (bif r0 then (bif ((true && (decide ((1 : Int) ≤ ((ByteArray.size x0) : Int)))) && (decide (((ByteArray.size x0) : Int) ≤ ((ByteArray.size x0) : Int)))) then ((g12 (ByteArray.extract x0 (1 : Nat) (Int.toNat ((ByteArray.size x0) : Int)))).bind fun r1 => (ret ((4 : Int), x7, x8, r1.1))) else none) else ((g36 x0 (ByteArray.mk (List.toArray [(34 : UInt8)]))).bind fun r2 => (bif r2 then ((g12 x0).bind fun r3 => (ret ((5 : Int), x7, x8, r3.1))) else ((g37 x0).bind fun r4 => (ret ((2 : Int), r4.1, x8, x9))))))))
def words_guess.s2c {β : Type} (g12 : ByteArray → Option (ByteArray × Int)) (g22 : ByteArray → Option Int) (g36 : ByteArray → ByteArray → Option Bool) (g37 : ByteArray → Option (Int × Int)) (s0 : ByteArray → Bool → Int → Int → Int → ByteArray → Int → Int → Int → ByteArray → Option (Int × Int × Int × ByteArray)) (s1 : ByteArray → Bool → Int → Int → Int → ByteArray → Int → Int → Int → ByteArray → Option (Int × Int × Int × ByteArray)) (s2 : ByteArray → Int → Int → Int → Int → ByteArray → Int → Int → Int → ByteArray → Option (Int × Int × Int × ByteArray)) (x0 : ByteArray) (x1 : Int) (x2 : Int) (x3 : Int) (x4 : Int) (x5 : ByteArray) (x6 : Int) (x7 : Int) (x8 : Int) (x9 : ByteArray) (ret : (Int × Int × Int × ByteArray) → Option β) : Option β := (bif (decide (x1 < ((ByteArray.size x0) : Int))) then (bif (((decide ((0 : Int) ≤ x1)) && (decide (x1 ≤ (IntKind.wrap IntKind.i64 (x1 + (2 : Int)))))) && (decide ((IntKind.wrap IntKind.i64 (x1 + (2 : Int))) ≤ ((ByteArray.size x0) : Int)))) then ((g22 (ByteArray.extract x0 (Int.toNat x1) (Int.toNat (IntKind.wrap IntKind.i64 (x1 + (2 : Int)))))).bind fun r0 => ((s2 x0 (IntKind.wrap IntKind.i64 (x1 + (2 : Int))) x2 x3 x4 x5 x6 x7 (IntKind.wrap IntKind.u64 ((BitVec.toNat ((BitVec.ofInt (64 : Nat) (IntKind.wrap IntKind.u64 (x8 * (256 : Int)))) ||| (BitVec.ofInt (64 : Nat) (IntKind.wrap IntKind.u64 r0)))) : Int)) x9).bind ret)) else none) else (ret (x6, x7, x8, x9)))
theorem words_guess.c_bind {β : Type} (g12 : ByteArray → Option (ByteArray × Int)) (g22 : ByteArray → Option Int) (g36 : ByteArray → ByteArray → Option Bool) (g37 : ByteArray → Option (Int × Int)) (s0 : ByteArray → Bool → Int → Int → Int → ByteArray → Int → Int → Int → ByteArray → Option (Int × Int × Int × ByteArray)) (s1 : ByteArray → Bool → Int → Int → Int → ByteArray → Int → Int → Int → ByteArray → Option (Int × Int × Int × ByteArray)) (s2 : ByteArray → Int → Int → Int → Int → ByteArray → Int → Int → Int → ByteArray → Option (Int × Int × Int × ByteArray)) (a0 : ByteArray) (ret : (Int × Int × Int × ByteArray) → Option β) : words_guess.c g12 g22 g36 g37 s0 s1 s2 a0 ret = (words_guess.c g12 g22 g36 g37 s0 s1 s2 a0 some).bind ret := by
  simp only [words_guess.c, bif_bind, sum_bind, Option.bind_assoc, Option.bind_some, Option.bind_none, Option.bind_fun_some]
theorem words_guess.s0c_bind {β : Type} (g12 : ByteArray → Option (ByteArray × Int)) (g22 : ByteArray → Option Int) (g36 : ByteArray → ByteArray → Option Bool) (g37 : ByteArray → Option (Int × Int)) (s0 : ByteArray → Bool → Int → Int → Int → ByteArray → Int → Int → Int → ByteArray → Option (Int × Int × Int × ByteArray)) (s1 : ByteArray → Bool → Int → Int → Int → ByteArray → Int → Int → Int → ByteArray → Option (Int × Int × Int × ByteArray)) (s2 : ByteArray → Int → Int → Int → Int → ByteArray → Int → Int → Int → ByteArray → Option (Int × Int × Int × ByteArray)) (x0 : ByteArray) (x1 : Bool) (x2 : Int) (x3 : Int) (x4 : Int) (x5 : ByteArray) (x6 : Int) (x7 : Int) (x8 : Int) (x9 : ByteArray) (ret : (Int × Int × Int × ByteArray) → Option β) : words_guess.s0c g12 g22 g36 g37 s0 s1 s2 x0 x1 x2 x3 x4 x5 x6 x7 x8 x9 ret = (words_guess.s0c g12 g22 g36 g37 s0 s1 s2 x0 x1 x2 x3 x4 x5 x6 x7 x8 x9 some).bind ret := by
  simp only [words_guess.s0c, bif_bind, sum_bind, Option.bind_assoc, Option.bind_some, Option.bind_none, Option.bind_fun_some]
theorem words_guess.s1c_bind {β : Type} (g12 : ByteArray → Option (ByteArray × Int)) (g22 : ByteArray → Option Int) (g36 : ByteArray → ByteArray → Option Bool) (g37 : ByteArray → Option (Int × Int)) (s0 : ByteArray → Bool → Int → Int → Int → ByteArray → Int → Int → Int → ByteArray → Option (Int × Int × Int × ByteArray)) (s1 : ByteArray → Bool → Int → Int → Int → ByteArray → Int → Int → Int → ByteArray → Option (Int × Int × Int × ByteArray)) (s2 : ByteArray → Int → Int → Int → Int → ByteArray → Int → Int → Int → ByteArray → Option (Int × Int × Int × ByteArray)) (x0 : ByteArray) (x1 : Bool) (x2 : Int) (x3 : Int) (x4 : Int) (x5 : ByteArray) (x6 : Int) (x7 : Int) (x8 : Int) (x9 : ByteArray) (ret : (Int × Int × Int × ByteArray) → Option β) : words_guess.s1c g12 g22 g36 g37 s0 s1 s2 x0 x1 x2 x3 x4 x5 x6 x7 x8 x9 ret = (words_guess.s1c g12 g22 g36 g37 s0 s1 s2 x0 x1 x2 x3 x4 x5 x6 x7 x8 x9 some).bind ret := by
  simp only [words_guess.s1c, bif_bind, sum_bind, Option.bind_assoc, Option.bind_some, Option.bind_none, Option.bind_fun_some]
theorem words_guess.s2c_bind {β : Type} (g12 : ByteArray → Option (ByteArray × Int)) (g22 : ByteArray → Option Int) (g36 : ByteArray → ByteArray → Option Bool) (g37 : ByteArray → Option (Int × Int)) (s0 : ByteArray → Bool → Int → Int → Int → ByteArray → Int → Int → Int → ByteArray → Option (Int × Int × Int × ByteArray)) (s1 : ByteArray → Bool → Int → Int → Int → ByteArray → Int → Int → Int → ByteArray → Option (Int × Int × Int × ByteArray)) (s2 : ByteArray → Int → Int → Int → Int → ByteArray → Int → Int → Int → ByteArray → Option (Int × Int × Int × ByteArray)) (x0 : ByteArray) (x1 : Int) (x2 : Int) (x3 : Int) (x4 : Int) (x5 : ByteArray) (x6 : Int) (x7 : Int) (x8 : Int) (x9 : ByteArray) (ret : (Int × Int × Int × ByteArray) → Option β) : words_guess.s2c g12 g22 g36 g37 s0 s1 s2 x0 x1 x2 x3 x4 x5 x6 x7 x8 x9 ret = (words_guess.s2c g12 g22 g36 g37 s0 s1 s2 x0 x1 x2 x3 x4 x5 x6 x7 x8 x9 some).bind ret := by
  simp only [words_guess.s2c, bif_bind, sum_bind, Option.bind_assoc, Option.bind_some, Option.bind_none, Option.bind_fun_some]
theorem words_guess.ev (g12 : ByteArray → Option (ByteArray × Int)) (g22 : ByteArray → Option Int) (g36 : ByteArray → ByteArray → Option Bool) (g37 : ByteArray → Option (Int × Int)) (s0 : ByteArray → Bool → Int → Int → Int → ByteArray → Int → Int → Int → ByteArray → Option (Int × Int × Int × ByteArray)) (s1 : ByteArray → Bool → Int → Int → Int → ByteArray → Int → Int → Int → ByteArray → Option (Int × Int × Int × ByteArray)) (s2 : ByteArray → Int → Int → Int → Int → ByteArray → Int → Int → Int → ByteArray → Option (Int × Int × Int × ByteArray)) (a0 : ByteArray) : evAt (env_words_guess g12 g22 g36 g37 s0 s1 s2) [] [0] [.v (.one (.d .str a0))] [] some = words_guess.c g12 g22 g36 g37 s0 s1 s2 a0 (fun r => some ⟨.v (.agg [(.d (.int .i64) r.1), (.d (.int .i64) r.2.1), (.d (.int .u64) r.2.2.1), (.d .str r.2.2.2)]), []⟩) := by
  kernel_rfl
theorem words_guess.s0_ev (g12 : ByteArray → Option (ByteArray × Int)) (g22 : ByteArray → Option Int) (g36 : ByteArray → ByteArray → Option Bool) (g37 : ByteArray → Option (Int × Int)) (s0 : ByteArray → Bool → Int → Int → Int → ByteArray → Int → Int → Int → ByteArray → Option (Int × Int × Int × ByteArray)) (s1 : ByteArray → Bool → Int → Int → Int → ByteArray → Int → Int → Int → ByteArray → Option (Int × Int × Int × ByteArray)) (s2 : ByteArray → Int → Int → Int → Int → ByteArray → Int → Int → Int → ByteArray → Option (Int × Int × Int × ByteArray)) (x0 : ByteArray) (x1 : Bool) (x2 : Int) (x3 : Int) (x4 : Int) (x5 : ByteArray) (x6 : Int) (x7 : Int) (x8 : Int) (x9 : ByteArray) : evAt (env_words_guess g12 g22 g36 g37 s0 s1 s2) [1, 3, 1, 4, 0, 1, 1] [0, 2, 3, 15] [.v (.one (.d .str x0)), .v (.one (.ptr 0 0)), .v (.one (.ptr 1 0)), .v (.one (.d .bool x1))] [some (.box [(.d (.int .i64) x2), (.d (.int .i64) x3), (.d (.int .u64) x4), (.d .str x5)]), some (.box [(.d (.int .i64) x6), (.d (.int .i64) x7), (.d (.int .u64) x8), (.d .str x9)])] some = words_guess.s0c g12 g22 g36 g37 s0 s1 s2 x0 x1 x2 x3 x4 x5 x6 x7 x8 x9 (fun r => some ⟨.v (.agg [(.d (.int .i64) r.1), (.d (.int .i64) r.2.1), (.d (.int .u64) r.2.2.1), (.d .str r.2.2.2)]), []⟩) := by
  kernel_rfl
theorem words_guess.s1_ev (g12 : ByteArray → Option (ByteArray × Int)) (g22 : ByteArray → Option Int) (g36 : ByteArray → ByteArray → Option Bool) (g37 : ByteArray → Option (Int × Int)) (s0 : ByteArray → Bool → Int → Int → Int → ByteArray → Int → Int → Int → ByteArray → Option (Int × Int × Int × ByteArray)) (s1 : ByteArray → Bool → Int → Int → Int → ByteArray → Int → Int → Int → ByteArray → Option (Int × Int × Int × ByteArray)) (s2 : ByteArray → Int → Int → Int → Int → ByteArray → Int → Int → Int → ByteArray → Option (Int × Int × Int × ByteArray)) (x0 : ByteArray) (x1 : Bool) (x2 : Int) (x3 : Int) (x4 : Int) (x5 : ByteArray) (x6 : Int) (x7 : Int) (x8 : Int) (x9 : ByteArray) : evAt (env_words_guess g12 g22 g36 g37 s0 s1 s2) [1, 3, 1, 3, 1, 4, 0, 1, 1] [0, 2, 3, 26] [.v (.one (.d .str x0)), .v (.one (.ptr 0 0)), .v (.one (.ptr 1 0)), .v (.one (.d .bool x1))] [some (.box [(.d (.int .i64) x2), (.d (.int .i64) x3), (.d (.int .u64) x4), (.d .str x5)]), some (.box [(.d (.int .i64) x6), (.d (.int .i64) x7), (.d (.int .u64) x8), (.d .str x9)])] some = words_guess.s1c g12 g22 g36 g37 s0 s1 s2 x0 x1 x2 x3 x4 x5 x6 x7 x8 x9 (fun r => some ⟨.v (.agg [(.d (.int .i64) r.1), (.d (.int .i64) r.2.1), (.d (.int .u64) r.2.2.1), (.d .str r.2.2.2)]), []⟩) := by
  kernel_rfl
theorem words_guess.s2_ev (g12 : ByteArray → Option (ByteArray × Int)) (g22 : ByteArray → Option Int) (g36 : ByteArray → ByteArray → Option Bool) (g37 : ByteArray → Option (Int × Int)) (s0 : ByteArray → Bool → Int → Int → Int → ByteArray → Int → Int → Int → ByteArray → Option (Int × Int × Int × ByteArray)) (s1 : ByteArray → Bool → Int → Int → Int → ByteArray → Int → Int → Int → ByteArray → Option (Int × Int × Int × ByteArray)) (s2 : ByteArray → Int → Int → Int → Int → ByteArray → Int → Int → Int → ByteArray → Option (Int × Int × Int × ByteArray)) (x0 : ByteArray) (x1 : Int) (x2 : Int) (x3 : Int) (x4 : Int) (x5 : ByteArray) (x6 : Int) (x7 : Int) (x8 : Int) (x9 : ByteArray) : evAt (env_words_guess g12 g22 g36 g37 s0 s1 s2) [4, 1, 1, 2, 1, 3, 1, 3, 1, 4, 0, 1, 1] [0, 2, 3, 4] [.v (.one (.d .str x0)), .v (.one (.ptr 0 0)), .v (.one (.ptr 1 0)), .v (.one (.d (.int .i64) x1))] [some (.box [(.d (.int .i64) x2), (.d (.int .i64) x3), (.d (.int .u64) x4), (.d .str x5)]), some (.box [(.d (.int .i64) x6), (.d (.int .i64) x7), (.d (.int .u64) x8), (.d .str x9)])] some = words_guess.s2c g12 g22 g36 g37 s0 s1 s2 x0 x1 x2 x3 x4 x5 x6 x7 x8 x9 (fun r => some ⟨.v (.agg [(.d (.int .i64) r.1), (.d (.int .i64) r.2.1), (.d (.int .u64) r.2.2.1), (.d .str r.2.2.2)]), []⟩) := by
  kernel_rfl
mutual
def words_guess.s0 : Nat → ByteArray → Bool → Int → Int → Int → ByteArray → Int → Int → Int → ByteArray → Option (Int × Int × Int × ByteArray)
  | 0, _, _, _, _, _, _, _, _, _, _ => none
  | k + 1, x0, x1, x2, x3, x4, x5, x6, x7, x8, x9 => words_guess.s0c (words_Unquote.f k) (words_hex.f k) (strings_HasPrefix.f k) (convert_Number.f k) (words_guess.s0 k) (words_guess.s1 k) (words_guess.s2 k) x0 x1 x2 x3 x4 x5 x6 x7 x8 x9 some
def words_guess.s1 : Nat → ByteArray → Bool → Int → Int → Int → ByteArray → Int → Int → Int → ByteArray → Option (Int × Int × Int × ByteArray)
  | 0, _, _, _, _, _, _, _, _, _, _ => none
  | k + 1, x0, x1, x2, x3, x4, x5, x6, x7, x8, x9 => words_guess.s1c (words_Unquote.f k) (words_hex.f k) (strings_HasPrefix.f k) (convert_Number.f k) (words_guess.s0 k) (words_guess.s1 k) (words_guess.s2 k) x0 x1 x2 x3 x4 x5 x6 x7 x8 x9 some
def words_guess.s2 : Nat → ByteArray → Int → Int → Int → Int → ByteArray → Int → Int → Int → ByteArray → Option (Int × Int × Int × ByteArray)
  | 0, _, _, _, _, _, _, _, _, _, _ => none
  | k + 1, x0, x1, x2, x3, x4, x5, x6, x7, x8, x9 => words_guess.s2c (words_Unquote.f k) (words_hex.f k) (strings_HasPrefix.f k) (convert_Number.f k) (words_guess.s0 k) (words_guess.s1 k) (words_guess.s2 k) x0 x1 x2 x3 x4 x5 x6 x7 x8 x9 some
end
def words_guess.f (k : Nat) (a0 : ByteArray) : Option (Int × Int × Int × ByteArray) := words_guess.c (words_Unquote.f k) (words_hex.f k) (strings_HasPrefix.f k) (convert_Number.f k) (words_guess.s0 k) (words_guess.s1 k) (words_guess.s2 k) a0 some
theorem words_guess.is (g12 : ByteArray → Option (ByteArray × Int)) (g22 : ByteArray → Option Int) (g36 : ByteArray → ByteArray → Option Bool) (g37 : ByteArray → Option (Int × Int)) (s0 : ByteArray → Bool → Int → Int → Int → ByteArray → Int → Int → Int → ByteArray → Option (Int × Int × Int × ByteArray)) (s1 : ByteArray → Bool → Int → Int → Int → ByteArray → Int → Int → Int → ByteArray → Option (Int × Int × Int × ByteArray)) (s2 : ByteArray → Int → Int → Int → Int → ByteArray → Int → Int → Int → ByteArray → Option (Int × Int × Int × ByteArray)) : FnIs (env_words_guess g12 g22 g36 g37 s0 s1 s2) 29 Go.Proofs.Try.f29 := ⟨Go.Proofs.Try.func29, rfl, rfl, rfl, by decide⟩
theorem words_guess.envok (g12 : ByteArray → Option (ByteArray × Int)) (g22 : ByteArray → Option Int) (g36 : ByteArray → ByteArray → Option Bool) (g37 : ByteArray → Option (Int × Int)) (s0 : ByteArray → Bool → Int → Int → Int → ByteArray → Int → Int → Int → ByteArray → Option (Int × Int × Int × ByteArray)) (s1 : ByteArray → Bool → Int → Int → Int → ByteArray → Int → Int → Int → ByteArray → Option (Int × Int × Int × ByteArray)) (s2 : ByteArray → Int → Int → Int → Int → ByteArray → Int → Int → Int → ByteArray → Option (Int × Int × Int × ByteArray)) (h12 : CtOK Go.Proofs.Try.prog 12 (ct_words_Unquote g12)) (h22 : CtOK Go.Proofs.Try.prog 22 (ct_words_hex g22)) (h36 : CtOK Go.Proofs.Try.prog 36 (ct_strings_HasPrefix g36)) (h37 : CtOK Go.Proofs.Try.prog 37 (ct_convert_Number g37)) : EnvOK (env_words_guess g12 g22 g36 g37 s0 s1 s2).toEnv := by
  intro f c h
  simp only [env_words_guess] at h
  split at h
  · rename_i e; subst e; cases h; exact h12
  split at h
  · rename_i e; subst e; cases h; exact h22
  split at h
  · rename_i e; subst e; cases h; exact h36
  split at h
  · rename_i e; subst e; cases h; exact h37
  simp at h
theorem words_guess.segs_ok : ∀ k, ∀ s ∈ (env_words_guess (words_Unquote.f k) (words_hex.f k) (strings_HasPrefix.f k) (convert_Number.f k) (words_guess.s0 k) (words_guess.s1 k) (words_guess.s2 k)).segs, SegOK (env_words_guess (words_Unquote.f k) (words_hex.f k) (strings_HasPrefix.f k) (convert_Number.f k) (words_guess.s0 k) (words_guess.s1 k) (words_guess.s2 k)) Go.Proofs.Try.f29 s
  | 0 => by
    intro s hs
    simp only [env_words_guess, List.mem_cons, List.not_mem_nil, or_false] at hs
    rcases hs with rfl | rfl | rfl
    · intro tvs blks res h; exfalso; simp only [seg_words_guess_0] at h; split at h <;> simp [words_guess.s0] at h
    · intro tvs blks res h; exfalso; simp only [seg_words_guess_1] at h; split at h <;> simp [words_guess.s1] at h
    · intro tvs blks res h; exfalso; simp only [seg_words_guess_2] at h; split at h <;> simp [words_guess.s2] at h
  | k + 1 => by
    have ih := words_guess.segs_ok k
    intro s hs
    simp only [env_words_guess, List.mem_cons, List.not_mem_nil, or_false] at hs
    rcases hs with rfl | rfl | rfl
    · refine seg_of_ev (E := env_words_guess (words_Unquote.f k) (words_hex.f k) (strings_HasPrefix.f k) (convert_Number.f k) (words_guess.s0 k) (words_guess.s1 k) (words_guess.s2 k)) (words_guess.envok _ _ _ _ _ _ _  (words_Unquote.ok k) (words_hex.ok k) (strings_HasPrefix.ok k) (convert_Number.ok k)) ⟨(words_guess.is (words_Unquote.f k) (words_hex.f k) (strings_HasPrefix.f k) (convert_Number.f k) (words_guess.s0 k) (words_guess.s1 k) (words_guess.s2 k)).rvs⟩ ih ?_
      intro tvs blks res h
      simp only [seg_words_guess_0] at h
      split at h
      · refine (words_guess.s0_ev (words_Unquote.f k) (words_hex.f k) (strings_HasPrefix.f k) (convert_Number.f k) (words_guess.s0 k) (words_guess.s1 k) (words_guess.s2 k) _ _ _ _ _ _ _ _ _ _ ).trans ?_
        rw [words_guess.s0c_bind]
        exact h
      · simp at h
    · refine seg_of_ev (E := env_words_guess (words_Unquote.f k) (words_hex.f k) (strings_HasPrefix.f k) (convert_Number.f k) (words_guess.s0 k) (words_guess.s1 k) (words_guess.s2 k)) (words_guess.envok _ _ _ _ _ _ _  (words_Unquote.ok k) (words_hex.ok k) (strings_HasPrefix.ok k) (convert_Number.ok k)) ⟨(words_guess.is (words_Unquote.f k) (words_hex.f k) (strings_HasPrefix.f k) (convert_Number.f k) (words_guess.s0 k) (words_guess.s1 k) (words_guess.s2 k)).rvs⟩ ih ?_
      intro tvs blks res h
      simp only [seg_words_guess_1] at h
      split at h
      · refine (words_guess.s1_ev (words_Unquote.f k) (words_hex.f k) (strings_HasPrefix.f k) (convert_Number.f k) (words_guess.s0 k) (words_guess.s1 k) (words_guess.s2 k) _ _ _ _ _ _ _ _ _ _ ).trans ?_
        rw [words_guess.s1c_bind]
        exact h
      · simp at h
    · refine seg_of_ev (E := env_words_guess (words_Unquote.f k) (words_hex.f k) (strings_HasPrefix.f k) (convert_Number.f k) (words_guess.s0 k) (words_guess.s1 k) (words_guess.s2 k)) (words_guess.envok _ _ _ _ _ _ _  (words_Unquote.ok k) (words_hex.ok k) (strings_HasPrefix.ok k) (convert_Number.ok k)) ⟨(words_guess.is (words_Unquote.f k) (words_hex.f k) (strings_HasPrefix.f k) (convert_Number.f k) (words_guess.s0 k) (words_guess.s1 k) (words_guess.s2 k)).rvs⟩ ih ?_
      intro tvs blks res h
      simp only [seg_words_guess_2] at h
      split at h
      · refine (words_guess.s2_ev (words_Unquote.f k) (words_hex.f k) (strings_HasPrefix.f k) (convert_Number.f k) (words_guess.s0 k) (words_guess.s1 k) (words_guess.s2 k) _ _ _ _ _ _ _ _ _ _ ).trans ?_
        rw [words_guess.s2c_bind]
        exact h
      · simp at h
theorem words_guess.ok (k : Nat) : CtOK Go.Proofs.Try.prog 29 (ct_words_guess (words_guess.f k)) := by
  refine ct_of_ev (E := env_words_guess (words_Unquote.f k) (words_hex.f k) (strings_HasPrefix.f k) (convert_Number.f k) (words_guess.s0 k) (words_guess.s1 k) (words_guess.s2 k)) (words_guess.is _ _ _ _ _ _ _ ) (words_guess.envok _ _ _ _ _ _ _  (words_Unquote.ok k) (words_hex.ok k) (strings_HasPrefix.ok k) (convert_Number.ok k)) (words_guess.segs_ok k) rfl ?_
  intro tvs blks res h
  simp only [ct_words_guess] at h
  split at h
  · refine (words_guess.ev (words_Unquote.f k) (words_hex.f k) (strings_HasPrefix.f k) (convert_Number.f k) (words_guess.s0 k) (words_guess.s1 k) (words_guess.s2 k) _ ).trans ?_
    rw [words_guess.c_bind]
    exact h
  · simp at h

/-! ### words_Value: function 18 -/
def ct_words_Value (g : ByteArray → Option (Int × Int × Int × ByteArray × Int)) : Ct where
  nin := 0
  mv := []
  F := fun tvs blks {β} K => match tvs, blks with
    | [.v (.one (.d .str a0))], [] => (g a0).bind fun r => K ⟨.tup [(.agg [(.d (.int .i64) r.1), (.d (.int .i64) r.2.1), (.d (.int .u64) r.2.2.1), (.d .str r.2.2.2.1)]), (.one (.d (.int .i64) r.2.2.2.2))], []⟩
    | _, _ => none
  legit := fun tvs blks K r h => by
    split at h
    · obtain ⟨x, hx, hk⟩ := Option.bind_eq_some_iff.1 h
      refine ⟨_, ?_, hk⟩
      simp only [hx, Option.bind_some]
    · simp at h
noncomputable def env_words_Value (g16 : Int → Int → Int → ByteArray → Option (ByteArray × Int)) (g29 : ByteArray → Option (Int × Int × Int × ByteArray))  : FEnv := { P := Go.Proofs.Try.prog, ct := fun m => if m = 16 then some (ct_words_Show g16) else if m = 29 then some (ct_words_guess g29) else none, N := 23, body := Go.Proofs.Try.f18.body.getD .skip, rvs := [.cell 2 38, .tmp 3], rts := [38, 24], nin := 0, rmv := [], segs := [] }
def words_Value.c {β : Type} (g16 : Int → Int → Int → ByteArray → Option (ByteArray × Int)) (g29 : ByteArray → Option (Int × Int × Int × ByteArray))  (a0 : ByteArray) (ret : (Int × Int × Int × ByteArray × Int) → Option β) : Option β := ((g29 a0).bind fun r0 => ((g16 r0.1 r0.2.1 r0.2.2.1 r0.2.2.2).bind fun r1 => (bif (r1.2 != (0 : Int)) then (ret ((0 : Int), (0 : Int), (0 : Int), (ByteArray.mk (List.toArray [])), (7 : Int))) else (bif (!((ByteArray.toList r1.1) == (ByteArray.toList a0))) then (ret ((0 : Int), (0 : Int), (0 : Int), (ByteArray.mk (List.toArray [])), (7 : Int))) else (ret (r0.1, r0.2.1, r0.2.2.1, r0.2.2.2, (0 : Int)))))))
theorem words_Value.c_bind {β : Type} (g16 : Int → Int → Int → ByteArray → Option (ByteArray × Int)) (g29 : ByteArray → Option (Int × Int × Int × ByteArray))  (a0 : ByteArray) (ret : (Int × Int × Int × ByteArray × Int) → Option β) : words_Value.c g16 g29  a0 ret = (words_Value.c g16 g29  a0 some).bind ret := by
  simp only [words_Value.c, bif_bind, sum_bind, Option.bind_assoc, Option.bind_some, Option.bind_none, Option.bind_fun_some]
theorem words_Value.ev (g16 : Int → Int → Int → ByteArray → Option (ByteArray × Int)) (g29 : ByteArray → Option (Int × Int × Int × ByteArray))  (a0 : ByteArray) : evAt (env_words_Value g16 g29 ) [] [0] [.v (.one (.d .str a0))] [] some = words_Value.c g16 g29  a0 (fun r => some ⟨.tup [(.agg [(.d (.int .i64) r.1), (.d (.int .i64) r.2.1), (.d (.int .u64) r.2.2.1), (.d .str r.2.2.2.1)]), (.one (.d (.int .i64) r.2.2.2.2))], []⟩) := by
  kernel_rfl
def words_Value.f (k : Nat) (a0 : ByteArray) : Option (Int × Int × Int × ByteArray × Int) := words_Value.c (words_Show.f k) (words_guess.f k)  a0 some
theorem words_Value.is (g16 : Int → Int → Int → ByteArray → Option (ByteArray × Int)) (g29 : ByteArray → Option (Int × Int × Int × ByteArray))  : FnIs (env_words_Value g16 g29 ) 18 Go.Proofs.Try.f18 := ⟨Go.Proofs.Try.func18, rfl, rfl, rfl, by decide⟩
theorem words_Value.envok (g16 : Int → Int → Int → ByteArray → Option (ByteArray × Int)) (g29 : ByteArray → Option (Int × Int × Int × ByteArray))  (h16 : CtOK Go.Proofs.Try.prog 16 (ct_words_Show g16)) (h29 : CtOK Go.Proofs.Try.prog 29 (ct_words_guess g29)) : EnvOK (env_words_Value g16 g29 ).toEnv := by
  intro f c h
  simp only [env_words_Value] at h
  split at h
  · rename_i e; subst e; cases h; exact h16
  split at h
  · rename_i e; subst e; cases h; exact h29
  simp at h
theorem words_Value.ok (k : Nat) : CtOK Go.Proofs.Try.prog 18 (ct_words_Value (words_Value.f k)) := by
  refine ct_of_ev (E := env_words_Value (words_Show.f k) (words_guess.f k) ) (words_Value.is _ _ ) (words_Value.envok _ _  (words_Show.ok k) (words_guess.ok k)) (fun s hs => by simp [env_words_Value] at hs) rfl ?_
  intro tvs blks res h
  simp only [ct_words_Value] at h
  split at h
  · refine (words_Value.ev (words_Show.f k) (words_guess.f k)  _ ).trans ?_
    rw [words_Value.c_bind]
    exact h
  · simp at h

/-! ### transomlaw36_awake: function 7 -/
def ct_transomlaw36_awake (g : Option Bool) : Ct where
  nin := 0
  mv := []
  F := fun tvs blks {β} K => match tvs, blks with
    | [], [] => (g ).bind fun r => K ⟨.v (.one (.d .bool r)), []⟩
    | _, _ => none
  legit := fun tvs blks K r h => by
    split at h
    · obtain ⟨x, hx, hk⟩ := Option.bind_eq_some_iff.1 h
      refine ⟨_, ?_, hk⟩
      simp only [hx, Option.bind_some]
    · simp at h
noncomputable def env_transomlaw36_awake (g8 : ByteArray → Option ((List ByteArray) × Int)) (g11 : ByteArray → Option ByteArray) (g12 : ByteArray → Option (ByteArray × Int)) (g16 : Int → Int → Int → ByteArray → Option (ByteArray × Int)) (g18 : ByteArray → Option (Int × Int × Int × ByteArray × Int))  : FEnv := { P := Go.Proofs.Try.prog, ct := fun m => if m = 8 then some (ct_words_Split g8) else if m = 11 then some (ct_words_Quote g11) else if m = 12 then some (ct_words_Unquote g12) else if m = 16 then some (ct_words_Show g16) else if m = 18 then some (ct_words_Value g18) else none, N := 96, body := Go.Proofs.Try.f7.body.getD .skip, rvs := [.tmp 0], rts := [4], nin := 0, rmv := [], segs := [] }
def transomlaw36_awake.c {β : Type} (g8 : ByteArray → Option ((List ByteArray) × Int)) (g11 : ByteArray → Option ByteArray) (g12 : ByteArray → Option (ByteArray × Int)) (g16 : Int → Int → Int → ByteArray → Option (ByteArray × Int)) (g18 : ByteArray → Option (Int × Int × Int × ByteArray × Int))   (ret : Bool → Option β) : Option β := ((g16 (3 : Int) (0 : Int) (4607182418800017408 : Int) (ByteArray.mk (List.toArray []))).bind fun r0 => ((g8 (ByteArray.mk (List.toArray [(97 : UInt8), (32 : UInt8), (32 : UInt8), (98 : UInt8), (34 : UInt8), (120 : UInt8), (32 : UInt8), (92 : UInt8), (34 : UInt8), (32 : UInt8), (121 : UInt8), (34 : UInt8), (122 : UInt8), (32 : UInt8), (49 : UInt8)]))).bind fun r1 => ((g8 (ByteArray.mk (List.toArray [(97 : UInt8), (34 : UInt8), (98 : UInt8)]))).bind fun r2 => ((g11 (ByteArray.mk (List.toArray [(97 : UInt8), (34 : UInt8), (92 : UInt8), (0 : UInt8), (255 : UInt8)]))).bind fun r3 => ((g12 r3).bind fun r4 => ((g12 (ByteArray.mk (List.toArray [(34 : UInt8), (92 : UInt8), (120 : UInt8), (52 : UInt8), (49 : UInt8), (34 : UInt8)]))).bind fun r5 => ((g18 (ByteArray.mk (List.toArray [(98 : UInt8), (34 : UInt8), (92 : UInt8), (120 : UInt8), (48 : UInt8), (48 : UInt8), (34 : UInt8)]))).bind fun r6 => (bif ((ByteArray.toList r0.1) == (ByteArray.toList (ByteArray.mk (List.toArray [(114 : UInt8), (51 : UInt8), (102 : UInt8), (102 : UInt8), (48 : UInt8), (48 : UInt8), (48 : UInt8), (48 : UInt8), (48 : UInt8), (48 : UInt8), (48 : UInt8), (48 : UInt8), (48 : UInt8), (48 : UInt8), (48 : UInt8), (48 : UInt8), (48 : UInt8)])))) then (bif (r0.2 == (0 : Int)) then (bif (((List.length r1.1) : Int) == (3 : Int)) then (bif (true && (decide ((1 : Int) < ((List.length r1.1) : Int)))) then (bif ((ByteArray.toList (elem Ty.str r1.1 (1 : Int))) == (ByteArray.toList (ByteArray.mk (List.toArray [(98 : UInt8), (34 : UInt8), (120 : UInt8), (32 : UInt8), (92 : UInt8), (34 : UInt8), (32 : UInt8), (121 : UInt8), (34 : UInt8), (122 : UInt8)])))) then (bif (r1.2 == (0 : Int)) then (bif (r2.2 == (7 : Int)) then (bif ((ByteArray.toList r3) == (ByteArray.toList (ByteArray.mk (List.toArray [(34 : UInt8), (97 : UInt8), (92 : UInt8), (34 : UInt8), (92 : UInt8), (92 : UInt8), (92 : UInt8), (120 : UInt8), (48 : UInt8), (48 : UInt8), (92 : UInt8), (120 : UInt8), (102 : UInt8), (102 : UInt8), (34 : UInt8)])))) then (bif ((ByteArray.toList r4.1) == (ByteArray.toList (ByteArray.mk (List.toArray [(97 : UInt8), (34 : UInt8), (92 : UInt8), (0 : UInt8), (255 : UInt8)])))) then (bif (r4.2 == (0 : Int)) then (bif (r5.2 == (7 : Int)) then (bif (r6.1 == (4 : Int)) then (bif ((ByteArray.toList r6.2.2.2.1) == (ByteArray.toList (ByteArray.mk (List.toArray [(0 : UInt8)])))) then (ret ((r6.2.2.2.2 == (0 : Int)))) else (ret (false))) else (ret (false))) else (ret (false))) else (ret (false))) else (ret (false))) else (ret (false))) else (ret (false))) else (ret (false))) else (ret (false))) else none) else (ret (false))) else (ret (false))) else (ret (false))))))))))
theorem transomlaw36_awake.c_bind {β : Type} (g8 : ByteArray → Option ((List ByteArray) × Int)) (g11 : ByteArray → Option ByteArray) (g12 : ByteArray → Option (ByteArray × Int)) (g16 : Int → Int → Int → ByteArray → Option (ByteArray × Int)) (g18 : ByteArray → Option (Int × Int × Int × ByteArray × Int))   (ret : Bool → Option β) : transomlaw36_awake.c g8 g11 g12 g16 g18   ret = (transomlaw36_awake.c g8 g11 g12 g16 g18   some).bind ret := by
  simp only [transomlaw36_awake.c, bif_bind, sum_bind, Option.bind_assoc, Option.bind_some, Option.bind_none, Option.bind_fun_some]
theorem transomlaw36_awake.ev (g8 : ByteArray → Option ((List ByteArray) × Int)) (g11 : ByteArray → Option ByteArray) (g12 : ByteArray → Option (ByteArray × Int)) (g16 : Int → Int → Int → ByteArray → Option (ByteArray × Int)) (g18 : ByteArray → Option (Int × Int × Int × ByteArray × Int))   : evAt (env_transomlaw36_awake g8 g11 g12 g16 g18 ) [] [] [] [] some = transomlaw36_awake.c g8 g11 g12 g16 g18   (fun r => some ⟨.v (.one (.d .bool r)), []⟩) := by
  kernel_rfl
def transomlaw36_awake.f (k : Nat)  : Option Bool := transomlaw36_awake.c (words_Split.f k) (words_Quote.f k) (words_Unquote.f k) (words_Show.f k) (words_Value.f k)   some
theorem transomlaw36_awake.is (g8 : ByteArray → Option ((List ByteArray) × Int)) (g11 : ByteArray → Option ByteArray) (g12 : ByteArray → Option (ByteArray × Int)) (g16 : Int → Int → Int → ByteArray → Option (ByteArray × Int)) (g18 : ByteArray → Option (Int × Int × Int × ByteArray × Int))  : FnIs (env_transomlaw36_awake g8 g11 g12 g16 g18 ) 7 Go.Proofs.Try.f7 := ⟨Go.Proofs.Try.func7, rfl, rfl, rfl, by decide⟩
theorem transomlaw36_awake.envok (g8 : ByteArray → Option ((List ByteArray) × Int)) (g11 : ByteArray → Option ByteArray) (g12 : ByteArray → Option (ByteArray × Int)) (g16 : Int → Int → Int → ByteArray → Option (ByteArray × Int)) (g18 : ByteArray → Option (Int × Int × Int × ByteArray × Int))  (h8 : CtOK Go.Proofs.Try.prog 8 (ct_words_Split g8)) (h11 : CtOK Go.Proofs.Try.prog 11 (ct_words_Quote g11)) (h12 : CtOK Go.Proofs.Try.prog 12 (ct_words_Unquote g12)) (h16 : CtOK Go.Proofs.Try.prog 16 (ct_words_Show g16)) (h18 : CtOK Go.Proofs.Try.prog 18 (ct_words_Value g18)) : EnvOK (env_transomlaw36_awake g8 g11 g12 g16 g18 ).toEnv := by
  intro f c h
  simp only [env_transomlaw36_awake] at h
  split at h
  · rename_i e; subst e; cases h; exact h8
  split at h
  · rename_i e; subst e; cases h; exact h11
  split at h
  · rename_i e; subst e; cases h; exact h12
  split at h
  · rename_i e; subst e; cases h; exact h16
  split at h
  · rename_i e; subst e; cases h; exact h18
  simp at h
theorem transomlaw36_awake.ok (k : Nat) : CtOK Go.Proofs.Try.prog 7 (ct_transomlaw36_awake (transomlaw36_awake.f k)) := by
  refine ct_of_ev (E := env_transomlaw36_awake (words_Split.f k) (words_Quote.f k) (words_Unquote.f k) (words_Show.f k) (words_Value.f k) ) (transomlaw36_awake.is _ _ _ _ _ ) (transomlaw36_awake.envok _ _ _ _ _  (words_Split.ok k) (words_Quote.ok k) (words_Unquote.ok k) (words_Show.ok k) (words_Value.ok k)) (fun s hs => by simp [env_transomlaw36_awake] at hs) rfl ?_
  intro tvs blks res h
  simp only [ct_transomlaw36_awake] at h
  split at h
  · refine (transomlaw36_awake.ev (words_Split.f k) (words_Quote.f k) (words_Unquote.f k) (words_Show.f k) (words_Value.f k)  ).trans ?_
    rw [transomlaw36_awake.c_bind]
    exact h
  · simp at h
end Go.Proofs.Ytchlbajnmhffpaa.Aev
