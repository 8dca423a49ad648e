/- By a program of this session (AEV): functions of the program as plain functions, and that the machine does what they say. -/
import Derived.Test.YtpcojbnoadnknaaAevW
import Derived.Test.YtpcojbnoadnknaaProg
import Derived.Laws.Externs
import Derived.Lib.Bytealg
import Derived.Test.YtpcojbnoadnknaaF0
import Derived.Test.YtpcojbnoadnknaaF1
namespace Go.Proofs.Ytpcojbnoadnknaa.Aev
set_option linter.unusedVariables false
set_option linter.unusedSimpArgs false
set_option maxRecDepth 100000
set_option maxHeartbeats 4000000
open Go
/-! ### keycode_Read: function 9 -/
def ct_keycode_Read (g : ByteArray → Option (Int × Int × Int × ByteArray × ByteArray × Int)) : Ct where
  nin := 0
  mv := []
  F := fun tvs blks {β} K => match tvs, blks with
    | [.v (.one (.d .str a0))], [] => (g a0).bind fun r => K ⟨.tup [(.agg [(.d (.int .i64) r.1), (.d (.int .i64) r.2.1), (.d (.int .u64) r.2.2.1), (.d .str r.2.2.2.1)]), (.one (.d .str r.2.2.2.2.1)), (.one (.d (.int .i64) r.2.2.2.2.2))], []⟩
    | _, _ => none
  legit := fun tvs blks K r h => by
    split at h
    · obtain ⟨x, hx, hk⟩ := Option.bind_eq_some_iff.1 h
      refine ⟨_, ?_, hk⟩
      simp only [hx, Option.bind_some]
    · simp at h
def seg_keycode_Read_0 (g : ByteArray → ByteArray → Bool → Int → Int → Int → ByteArray → Int → Int → Int → ByteArray → Int → Int → Int → ByteArray → Option (Int × Int × Int × ByteArray × ByteArray × Int)) : Seg where
  path := [1, 3, 1, 3, 1, 3, 1, 4, 1, 0, 1, 1, 1, 1, 1, 1, 1, 1, 1]
  prep := []
  keep := [0, 2, 5, 6, 9, 70]
  F := fun tvs blks {β} K => match tvs, blks with
    | [.v (.one (.d .str x0)), .v (.one (.ptr 0 0)), .v (.one (.ptr 1 0)), .v (.one (.ptr 2 0)), .v (.one (.d .str x1)), .v (.one (.d .bool x2))], [some (.box [(.d (.int .i64) x3), (.d (.int .i64) x4), (.d (.int .u64) x5), (.d .str x6)]), some (.box [(.d (.int .i64) x7), (.d (.int .i64) x8), (.d (.int .u64) x9), (.d .str x10)]), some (.box [(.d (.int .i64) x11), (.d (.int .i64) x12), (.d (.int .u64) x13), (.d .str x14)])] => (g x0 x1 x2 x3 x4 x5 x6 x7 x8 x9 x10 x11 x12 x13 x14).bind fun r => K ⟨.tup [(.agg [(.d (.int .i64) r.1), (.d (.int .i64) r.2.1), (.d (.int .u64) r.2.2.1), (.d .str r.2.2.2.1)]), (.one (.d .str r.2.2.2.2.1)), (.one (.d (.int .i64) r.2.2.2.2.2))], []⟩
    | _, _ => none
  legit := fun tvs blks K r h => by
    split at h
    · obtain ⟨x, hx, hk⟩ := Option.bind_eq_some_iff.1 h
      refine ⟨_, ?_, hk⟩
      simp only [hx, Option.bind_some]
    · simp at h
noncomputable def env_keycode_Read (g25 : Int → Option Int) (g26 : ByteArray → Option Int) (g27 : Int → Option (Int × Bool)) (g28 : ByteArray → Option (ByteArray × ByteArray × Int)) (g29 : Int → Int → Int → ByteArray → Option Int) (s0 : ByteArray → ByteArray → Bool → Int → Int → Int → ByteArray → Int → Int → Int → ByteArray → Int → Int → Int → ByteArray → Option (Int × Int × Int × ByteArray × ByteArray × Int)) : FEnv := { P := Go.Proofs.Try.prog, ct := fun m => if m = 25 then some (ct_keycode_need g25) else if m = 26 then some (ct_keycode_get8 g26) else if m = 27 then some (ct_reals_Back g27) else if m = 28 then some (ct_keycode_plain g28) else if m = 29 then some (ct_values_Check g29) else none, N := 92, body := Go.Proofs.Try.f9.body.getD .skip, rvs := [.cell 2 25, .tmp 3, .tmp 4], rts := [25, 9, 26], nin := 0, rmv := [], segs := [seg_keycode_Read_0 s0] }
def keycode_Read.c {β : Type} (g25 : Int → Option Int) (g26 : ByteArray → Option Int) (g27 : Int → Option (Int × Bool)) (g28 : ByteArray → Option (ByteArray × ByteArray × Int)) (g29 : Int → Int → Int → ByteArray → Option Int) (s0 : ByteArray → ByteArray → Bool → Int → Int → Int → ByteArray → Int → Int → Int → ByteArray → Int → Int → Int → ByteArray → Option (Int × Int × Int × ByteArray × ByteArray × Int)) (a0 : ByteArray) (ret : (Int × Int × Int × ByteArray × ByteArray × Int) → Option β) : Option β := (bif ((ByteArray.toList a0) == (ByteArray.toList (ByteArray.mk (List.toArray [])))) then (ret ((0 : Int), (0 : Int), (0 : Int), (ByteArray.mk (List.toArray [])), (ByteArray.mk (List.toArray [])), (3 : Int))) else (bif (true && (decide ((0 : Int) < ((ByteArray.size a0) : Int)))) then (bif (decide ((IntKind.wrap IntKind.i64 (bt a0 (0 : Int))) > (5 : Int))) then (ret ((0 : Int), (0 : Int), (0 : Int), (ByteArray.mk (List.toArray [])), (ByteArray.mk (List.toArray [])), (4 : Int))) else ((g25 (IntKind.wrap IntKind.i64 (bt a0 (0 : Int)))).bind fun r0 => (bif ((true && (decide ((1 : Int) ≤ ((ByteArray.size a0) : Int)))) && (decide (((ByteArray.size a0) : Int) ≤ ((ByteArray.size a0) : Int)))) then (bif (decide (((ByteArray.size (ByteArray.extract a0 (1 : Nat) (Int.toNat ((ByteArray.size a0) : Int)))) : Int) < r0)) then (ret ((0 : Int), (0 : Int), (0 : Int), (ByteArray.mk (List.toArray [])), (ByteArray.mk (List.toArray [])), (3 : Int))) else (bif ((true && (decide ((0 : Int) ≤ r0))) && (decide (r0 ≤ ((ByteArray.size (ByteArray.extract a0 (1 : Nat) (Int.toNat ((ByteArray.size a0) : Int)))) : Int)))) then (bif (((decide ((0 : Int) ≤ r0)) && (decide (r0 ≤ ((ByteArray.size (ByteArray.extract a0 (1 : Nat) (Int.toNat ((ByteArray.size a0) : Int)))) : Int)))) && (decide (((ByteArray.size (ByteArray.extract a0 (1 : Nat) (Int.toNat ((ByteArray.size a0) : Int)))) : Int) ≤ ((ByteArray.size (ByteArray.extract a0 (1 : Nat) (Int.toNat ((ByteArray.size a0) : Int)))) : Int)))) then (bif ((IntKind.wrap IntKind.i64 (bt a0 (0 : Int))) == (1 : Int)) then (bif (true && (decide ((0 : Int) < ((ByteArray.size (ByteArray.extract (ByteArray.extract a0 (1 : Nat) (Int.toNat ((ByteArray.size a0) : Int))) (0 : Nat) (Int.toNat r0))) : Int)))) then ((g29 (IntKind.wrap IntKind.i64 (bt a0 (0 : Int))) (IntKind.wrap IntKind.i64 (bt (ByteArray.extract (ByteArray.extract a0 (1 : Nat) (Int.toNat ((ByteArray.size a0) : Int))) (0 : Nat) (Int.toNat r0)) (0 : Int))) (0 : Int) (ByteArray.mk (List.toArray []))).bind fun r1 => (bif (r1 != (0 : Int)) then (ret ((0 : Int), (0 : Int), (0 : Int), (ByteArray.mk (List.toArray [])), (ByteArray.mk (List.toArray [])), (4 : Int))) else (ret ((IntKind.wrap IntKind.i64 (bt a0 (0 : Int))), (IntKind.wrap IntKind.i64 (bt (ByteArray.extract (ByteArray.extract a0 (1 : Nat) (Int.toNat ((ByteArray.size a0) : Int))) (0 : Nat) (Int.toNat r0)) (0 : Int))), (0 : Int), (ByteArray.mk (List.toArray [])), (ByteArray.extract (ByteArray.extract a0 (1 : Nat) (Int.toNat ((ByteArray.size a0) : Int))) (Int.toNat r0) (Int.toNat ((ByteArray.size (ByteArray.extract a0 (1 : Nat) (Int.toNat ((ByteArray.size a0) : Int)))) : Int))), (0 : Int))))) else none) else (bif ((IntKind.wrap IntKind.i64 (bt a0 (0 : Int))) == (2 : Int)) then ((g26 (ByteArray.extract (ByteArray.extract a0 (1 : Nat) (Int.toNat ((ByteArray.size a0) : Int))) (0 : Nat) (Int.toNat r0))).bind fun r2 => ((g29 (IntKind.wrap IntKind.i64 (bt a0 (0 : Int))) (IntKind.wrap IntKind.i64 (IntKind.wrap IntKind.u64 ((BitVec.toNat ((BitVec.ofInt (64 : Nat) r2) ^^^ (BitVec.ofInt (64 : Nat) (9223372036854775808 : Int)))) : Int))) (0 : Int) (ByteArray.mk (List.toArray []))).bind fun r3 => (bif (r3 != (0 : Int)) then (ret ((0 : Int), (0 : Int), (0 : Int), (ByteArray.mk (List.toArray [])), (ByteArray.mk (List.toArray [])), (4 : Int))) else (ret ((IntKind.wrap IntKind.i64 (bt a0 (0 : Int))), (IntKind.wrap IntKind.i64 (IntKind.wrap IntKind.u64 ((BitVec.toNat ((BitVec.ofInt (64 : Nat) r2) ^^^ (BitVec.ofInt (64 : Nat) (9223372036854775808 : Int)))) : Int))), (0 : Int), (ByteArray.mk (List.toArray [])), (ByteArray.extract (ByteArray.extract a0 (1 : Nat) (Int.toNat ((ByteArray.size a0) : Int))) (Int.toNat r0) (Int.toNat ((ByteArray.size (ByteArray.extract a0 (1 : Nat) (Int.toNat ((ByteArray.size a0) : Int)))) : Int))), (0 : Int)))))) else (bif ((IntKind.wrap IntKind.i64 (bt a0 (0 : Int))) == (3 : Int)) then ((g26 (ByteArray.extract (ByteArray.extract a0 (1 : Nat) (Int.toNat ((ByteArray.size a0) : Int))) (0 : Nat) (Int.toNat r0))).bind fun r4 => ((g27 r4).bind fun r5 => (bif (!r5.2) then (ret ((0 : Int), (0 : Int), (0 : Int), (ByteArray.mk (List.toArray [])), (ByteArray.mk (List.toArray [])), (4 : Int))) else ((g29 (IntKind.wrap IntKind.i64 (bt a0 (0 : Int))) (0 : Int) r5.1 (ByteArray.mk (List.toArray []))).bind fun r6 => (bif (r6 != (0 : Int)) then (ret ((0 : Int), (0 : Int), (0 : Int), (ByteArray.mk (List.toArray [])), (ByteArray.mk (List.toArray [])), (4 : Int))) else (ret ((IntKind.wrap IntKind.i64 (bt a0 (0 : Int))), (0 : Int), r5.1, (ByteArray.mk (List.toArray [])), (ByteArray.extract (ByteArray.extract a0 (1 : Nat) (Int.toNat ((ByteArray.size a0) : Int))) (Int.toNat r0) (Int.toNat ((ByteArray.size (ByteArray.extract a0 (1 : Nat) (Int.toNat ((ByteArray.size a0) : Int)))) : Int))), (0 : Int)))))))) else (bif ((IntKind.wrap IntKind.i64 (bt a0 (0 : Int))) == (4 : Int)) then ((s0 (ByteArray.extract a0 (1 : Nat) (Int.toNat ((ByteArray.size a0) : Int))) (ByteArray.extract (ByteArray.extract a0 (1 : Nat) (Int.toNat ((ByteArray.size a0) : Int))) (Int.toNat r0) (Int.toNat ((ByteArray.size (ByteArray.extract a0 (1 : Nat) (Int.toNat ((ByteArray.size a0) : Int)))) : Int))) ((IntKind.wrap IntKind.i64 (bt a0 (0 : Int))) == (4 : Int)) (0 : Int) (0 : Int) (0 : Int) (ByteArray.mk (List.toArray [])) (0 : Int) (0 : Int) (0 : Int) (ByteArray.mk (List.toArray [])) (IntKind.wrap IntKind.i64 (bt a0 (0 : Int))) (0 : Int) (0 : Int) (ByteArray.mk (List.toArray []))).bind ret) else ((s0 (ByteArray.extract a0 (1 : Nat) (Int.toNat ((ByteArray.size a0) : Int))) (ByteArray.extract (ByteArray.extract a0 (1 : Nat) (Int.toNat ((ByteArray.size a0) : Int))) (Int.toNat r0) (Int.toNat ((ByteArray.size (ByteArray.extract a0 (1 : Nat) (Int.toNat ((ByteArray.size a0) : Int)))) : Int))) ((IntKind.wrap IntKind.i64 (bt a0 (0 : Int))) == (5 : Int)) (0 : Int) (0 : Int) (0 : Int) (ByteArray.mk (List.toArray [])) (0 : Int) (0 : Int) (0 : Int) (ByteArray.mk (List.toArray [])) (IntKind.wrap IntKind.i64 (bt a0 (0 : Int))) (0 : Int) (0 : Int) (ByteArray.mk (List.toArray []))).bind ret))))) else none) else none)) else none))) else none))
def keycode_Read.s0c {β : Type} (g25 : Int → Option Int) (g26 : ByteArray → Option Int) (g27 : Int → Option (Int × Bool)) (g28 : ByteArray → Option (ByteArray × ByteArray × Int)) (g29 : Int → Int → Int → ByteArray → Option Int) (s0 : ByteArray → ByteArray → Bool → Int → Int → Int → ByteArray → Int → Int → Int → ByteArray → Int → Int → Int → ByteArray → Option (Int × Int × Int × ByteArray × ByteArray × Int)) (x0 : ByteArray) (x1 : ByteArray) (x2 : Bool) (x3 : Int) (x4 : Int) (x5 : Int) (x6 : ByteArray) (x7 : Int) (x8 : Int) (x9 : Int) (x10 : ByteArray) (x11 : Int) (x12 : Int) (x13 : Int) (x14 : ByteArray) (ret : (Int × Int × Int × ByteArray × ByteArray × Int) → Option β) : Option β := (bif x2 then ((g28 x0).bind fun r0 => (bif (r0.2.2 != (0 : Int)) then (ret (x7, x8, x9, x10, (ByteArray.mk (List.toArray [])), r0.2.2)) else ((g29 x11 x12 x13 r0.1).bind fun r1 => (bif (r1 != (0 : Int)) then (ret (x7, x8, x9, x10, (ByteArray.mk (List.toArray [])), (4 : Int))) else (ret (x11, x12, x13, r0.1, r0.2.1, (0 : Int))))))) else ((g29 x11 x12 x13 x14).bind fun r2 => (bif (r2 != (0 : Int)) then (ret (x7, x8, x9, x10, (ByteArray.mk (List.toArray [])), (4 : Int))) else (ret (x11, x12, x13, x14, x1, (0 : Int))))))
theorem keycode_Read.c_bind {β : Type} (g25 : Int → Option Int) (g26 : ByteArray → Option Int) (g27 : Int → Option (Int × Bool)) (g28 : ByteArray → Option (ByteArray × ByteArray × Int)) (g29 : Int → Int → Int → ByteArray → Option Int) (s0 : ByteArray → ByteArray → Bool → Int → Int → Int → ByteArray → Int → Int → Int → ByteArray → Int → Int → Int → ByteArray → Option (Int × Int × Int × ByteArray × ByteArray × Int)) (a0 : ByteArray) (ret : (Int × Int × Int × ByteArray × ByteArray × Int) → Option β) : keycode_Read.c g25 g26 g27 g28 g29 s0 a0 ret = (keycode_Read.c g25 g26 g27 g28 g29 s0 a0 some).bind ret := by
  simp only [keycode_Read.c, bif_bind, sum_bind, Option.bind_assoc, Option.bind_some, Option.bind_none, Option.bind_fun_some]
theorem keycode_Read.s0c_bind {β : Type} (g25 : Int → Option Int) (g26 : ByteArray → Option Int) (g27 : Int → Option (Int × Bool)) (g28 : ByteArray → Option (ByteArray × ByteArray × Int)) (g29 : Int → Int → Int → ByteArray → Option Int) (s0 : ByteArray → ByteArray → Bool → Int → Int → Int → ByteArray → Int → Int → Int → ByteArray → Int → Int → Int → ByteArray → Option (Int × Int × Int × ByteArray × ByteArray × Int)) (x0 : ByteArray) (x1 : ByteArray) (x2 : Bool) (x3 : Int) (x4 : Int) (x5 : Int) (x6 : ByteArray) (x7 : Int) (x8 : Int) (x9 : Int) (x10 : ByteArray) (x11 : Int) (x12 : Int) (x13 : Int) (x14 : ByteArray) (ret : (Int × Int × Int × ByteArray × ByteArray × Int) → Option β) : keycode_Read.s0c g25 g26 g27 g28 g29 s0 x0 x1 x2 x3 x4 x5 x6 x7 x8 x9 x10 x11 x12 x13 x14 ret = (keycode_Read.s0c g25 g26 g27 g28 g29 s0 x0 x1 x2 x3 x4 x5 x6 x7 x8 x9 x10 x11 x12 x13 x14 some).bind ret := by
  simp only [keycode_Read.s0c, bif_bind, sum_bind, Option.bind_assoc, Option.bind_some, Option.bind_none, Option.bind_fun_some]
theorem keycode_Read.ev (g25 : Int → Option Int) (g26 : ByteArray → Option Int) (g27 : Int → Option (Int × Bool)) (g28 : ByteArray → Option (ByteArray × ByteArray × Int)) (g29 : Int → Int → Int → ByteArray → Option Int) (s0 : ByteArray → ByteArray → Bool → Int → Int → Int → ByteArray → Int → Int → Int → ByteArray → Int → Int → Int → ByteArray → Option (Int × Int × Int × ByteArray × ByteArray × Int)) (a0 : ByteArray) : evAt (env_keycode_Read g25 g26 g27 g28 g29 s0) [] [0] [.v (.one (.d .str a0))] [] some = keycode_Read.c g25 g26 g27 g28 g29 s0 a0 (fun r => some ⟨.tup [(.agg [(.d (.int .i64) r.1), (.d (.int .i64) r.2.1), (.d (.int .u64) r.2.2.1), (.d .str r.2.2.2.1)]), (.one (.d .str r.2.2.2.2.1)), (.one (.d (.int .i64) r.2.2.2.2.2))], []⟩) := by
  kernel_rfl
theorem keycode_Read.s0_ev (g25 : Int → Option Int) (g26 : ByteArray → Option Int) (g27 : Int → Option (Int × Bool)) (g28 : ByteArray → Option (ByteArray × ByteArray × Int)) (g29 : Int → Int → Int → ByteArray → Option Int) (s0 : ByteArray → ByteArray → Bool → Int → Int → Int → ByteArray → Int → Int → Int → ByteArray → Int → Int → Int → ByteArray → Option (Int × Int × Int × ByteArray × ByteArray × Int)) (x0 : ByteArray) (x1 : ByteArray) (x2 : Bool) (x3 : Int) (x4 : Int) (x5 : Int) (x6 : ByteArray) (x7 : Int) (x8 : Int) (x9 : Int) (x10 : ByteArray) (x11 : Int) (x12 : Int) (x13 : Int) (x14 : ByteArray) : evAt (env_keycode_Read g25 g26 g27 g28 g29 s0) [1, 3, 1, 3, 1, 3, 1, 4, 1, 0, 1, 1, 1, 1, 1, 1, 1, 1, 1] [0, 2, 5, 6, 9, 70] [.v (.one (.d .str x0)), .v (.one (.ptr 0 0)), .v (.one (.ptr 1 0)), .v (.one (.ptr 2 0)), .v (.one (.d .str x1)), .v (.one (.d .bool x2))] [some (.box [(.d (.int .i64) x3), (.d (.int .i64) x4), (.d (.int .u64) x5), (.d .str x6)]), some (.box [(.d (.int .i64) x7), (.d (.int .i64) x8), (.d (.int .u64) x9), (.d .str x10)]), some (.box [(.d (.int .i64) x11), (.d (.int .i64) x12), (.d (.int .u64) x13), (.d .str x14)])] some = keycode_Read.s0c g25 g26 g27 g28 g29 s0 x0 x1 x2 x3 x4 x5 x6 x7 x8 x9 x10 x11 x12 x13 x14 (fun r => some ⟨.tup [(.agg [(.d (.int .i64) r.1), (.d (.int .i64) r.2.1), (.d (.int .u64) r.2.2.1), (.d .str r.2.2.2.1)]), (.one (.d .str r.2.2.2.2.1)), (.one (.d (.int .i64) r.2.2.2.2.2))], []⟩) := by
  kernel_rfl
def keycode_Read.s0 : Nat → ByteArray → ByteArray → Bool → Int → Int → Int → ByteArray → Int → Int → Int → ByteArray → Int → Int → Int → ByteArray → Option (Int × Int × Int × ByteArray × ByteArray × Int)
  | 0, _, _, _, _, _, _, _, _, _, _, _, _, _, _, _ => none
  | k + 1, x0, x1, x2, x3, x4, x5, x6, x7, x8, x9, x10, x11, x12, x13, x14 => keycode_Read.s0c (keycode_need.f k) (keycode_get8.f k) (reals_Back.f k) (keycode_plain.f k) (values_Check.f k) (keycode_Read.s0 k) x0 x1 x2 x3 x4 x5 x6 x7 x8 x9 x10 x11 x12 x13 x14 some
def keycode_Read.f (k : Nat) (a0 : ByteArray) : Option (Int × Int × Int × ByteArray × ByteArray × Int) := keycode_Read.c (keycode_need.f k) (keycode_get8.f k) (reals_Back.f k) (keycode_plain.f k) (values_Check.f k) (keycode_Read.s0 k) a0 some
theorem keycode_Read.is (g25 : Int → Option Int) (g26 : ByteArray → Option Int) (g27 : Int → Option (Int × Bool)) (g28 : ByteArray → Option (ByteArray × ByteArray × Int)) (g29 : Int → Int → Int → ByteArray → Option Int) (s0 : ByteArray → ByteArray → Bool → Int → Int → Int → ByteArray → Int → Int → Int → ByteArray → Int → Int → Int → ByteArray → Option (Int × Int × Int × ByteArray × ByteArray × Int)) : FnIs (env_keycode_Read g25 g26 g27 g28 g29 s0) 9 Go.Proofs.Try.f9 := ⟨Go.Proofs.Try.func9, rfl, rfl, rfl, by decide⟩
theorem keycode_Read.envok (g25 : Int → Option Int) (g26 : ByteArray → Option Int) (g27 : Int → Option (Int × Bool)) (g28 : ByteArray → Option (ByteArray × ByteArray × Int)) (g29 : Int → Int → Int → ByteArray → Option Int) (s0 : ByteArray → ByteArray → Bool → Int → Int → Int → ByteArray → Int → Int → Int → ByteArray → Int → Int → Int → ByteArray → Option (Int × Int × Int × ByteArray × ByteArray × Int)) (h25 : CtOK Go.Proofs.Try.prog 25 (ct_keycode_need g25)) (h26 : CtOK Go.Proofs.Try.prog 26 (ct_keycode_get8 g26)) (h27 : CtOK Go.Proofs.Try.prog 27 (ct_reals_Back g27)) (h28 : CtOK Go.Proofs.Try.prog 28 (ct_keycode_plain g28)) (h29 : CtOK Go.Proofs.Try.prog 29 (ct_values_Check g29)) : EnvOK (env_keycode_Read g25 g26 g27 g28 g29 s0).toEnv := by
  intro f c h
  simp only [env_keycode_Read] at h
  split at h
  · rename_i e; subst e; cases h; exact h25
  split at h
  · rename_i e; subst e; cases h; exact h26
  split at h
  · rename_i e; subst e; cases h; exact h27
  split at h
  · rename_i e; subst e; cases h; exact h28
  split at h
  · rename_i e; subst e; cases h; exact h29
  simp at h
theorem keycode_Read.segs_ok : ∀ k, ∀ s ∈ (env_keycode_Read (keycode_need.f k) (keycode_get8.f k) (reals_Back.f k) (keycode_plain.f k) (values_Check.f k) (keycode_Read.s0 k)).segs, SegOK (env_keycode_Read (keycode_need.f k) (keycode_get8.f k) (reals_Back.f k) (keycode_plain.f k) (values_Check.f k) (keycode_Read.s0 k)) Go.Proofs.Try.f9 s
  | 0 => by
    intro s hs
    simp only [env_keycode_Read, List.mem_cons, List.not_mem_nil, or_false] at hs
    rcases hs with rfl
    · intro tvs blks res h; exfalso; simp only [seg_keycode_Read_0] at h; split at h <;> simp [keycode_Read.s0] at h
  | k + 1 => by
    have ih := keycode_Read.segs_ok k
    intro s hs
    simp only [env_keycode_Read, List.mem_cons, List.not_mem_nil, or_false] at hs
    rcases hs with rfl
    · refine seg_of_ev (E := env_keycode_Read (keycode_need.f k) (keycode_get8.f k) (reals_Back.f k) (keycode_plain.f k) (values_Check.f k) (keycode_Read.s0 k)) (keycode_Read.envok _ _ _ _ _ _  (keycode_need.ok k) (keycode_get8.ok k) (reals_Back.ok k) (keycode_plain.ok k) (values_Check.ok k)) ⟨(keycode_Read.is (keycode_need.f k) (keycode_get8.f k) (reals_Back.f k) (keycode_plain.f k) (values_Check.f k) (keycode_Read.s0 k)).rvs⟩ ih ?_
      intro tvs blks res h
      simp only [seg_keycode_Read_0] at h
      split at h
      · refine (keycode_Read.s0_ev (keycode_need.f k) (keycode_get8.f k) (reals_Back.f k) (keycode_plain.f k) (values_Check.f k) (keycode_Read.s0 k) _ _ _ _ _ _ _ _ _ _ _ _ _ _ _ ).trans ?_
        rw [keycode_Read.s0c_bind]
        exact h
      · simp at h
theorem keycode_Read.ok (k : Nat) : CtOK Go.Proofs.Try.prog 9 (ct_keycode_Read (keycode_Read.f k)) := by
  refine ct_of_ev (E := env_keycode_Read (keycode_need.f k) (keycode_get8.f k) (reals_Back.f k) (keycode_plain.f k) (values_Check.f k) (keycode_Read.s0 k)) (keycode_Read.is _ _ _ _ _ _ ) (keycode_Read.envok _ _ _ _ _ _  (keycode_need.ok k) (keycode_get8.ok k) (reals_Back.ok k) (keycode_plain.ok k) (values_Check.ok k)) (keycode_Read.segs_ok k) rfl ?_
  intro tvs blks res h
  simp only [ct_keycode_Read] at h
  split at h
  · refine (keycode_Read.ev (keycode_need.f k) (keycode_get8.f k) (reals_Back.f k) (keycode_plain.f k) (values_Check.f k) (keycode_Read.s0 k) _ ).trans ?_
    rw [keycode_Read.c_bind]
    exact h
  · simp at h

/-! ### keycode_ReadRow: function 11 -/
def ct_keycode_ReadRow (g : ByteArray → Option ((List (Int × (Int × (Int × (ByteArray × Unit))))) × Int)) : Ct where
  nin := 0
  mv := []
  F := fun tvs blks {β} K => match tvs, blks with
    | [.v (.one (.d .str a0))], [] => (g a0).bind fun r => K ⟨.tup [(.one (.d (.sl (.pair (.int .i64) (.pair (.int .i64) (.pair (.int .u64) (.pair .str .unit))))) r.1)), (.one (.d (.int .i64) r.2))], []⟩
    | _, _ => none
  legit := fun tvs blks K r h => by
    split at h
    · obtain ⟨x, hx, hk⟩ := Option.bind_eq_some_iff.1 h
      refine ⟨_, ?_, hk⟩
      simp only [hx, Option.bind_some]
    · simp at h
def seg_keycode_ReadRow_0 (g : ByteArray → (List (Int × (Int × (Int × (ByteArray × Unit))))) → Option ((List (Int × (Int × (Int × (ByteArray × Unit))))) × Int)) : Seg where
  path := [4, 0, 1, 1]
  prep := [.own 4 (.pair (.int .i64) (.pair (.int .i64) (.pair (.int .u64) (.pair .str .unit))))]
  keep := [0, 4]
  F := fun tvs blks {β} K => match tvs, blks with
    | [.v (.one (.d .str x0)), .v (.one (.own 0))], [some (.own (.pair (.int .i64) (.pair (.int .i64) (.pair (.int .u64) (.pair .str .unit)))) false x1)] => (g x0 x1).bind fun r => K ⟨.tup [(.one (.d (.sl (.pair (.int .i64) (.pair (.int .i64) (.pair (.int .u64) (.pair .str .unit))))) r.1)), (.one (.d (.int .i64) r.2))], []⟩
    | _, _ => none
  legit := fun tvs blks K r h => by
    split at h
    · obtain ⟨x, hx, hk⟩ := Option.bind_eq_some_iff.1 h
      refine ⟨_, ?_, hk⟩
      simp only [hx, Option.bind_some]
    · simp at h
noncomputable def env_keycode_ReadRow (g9 : ByteArray → Option (Int × Int × Int × ByteArray × ByteArray × Int)) (s0 : ByteArray → (List (Int × (Int × (Int × (ByteArray × Unit))))) → Option ((List (Int × (Int × (Int × (ByteArray × Unit))))) × Int)) : FEnv := { P := Go.Proofs.Try.prog, ct := fun m => if m = 9 then some (ct_keycode_Read g9) else none, N := 25, body := Go.Proofs.Try.f11.body.getD .skip, rvs := [.tmp 2, .tmp 3], rts := [31, 26], nin := 0, rmv := [], segs := [seg_keycode_ReadRow_0 s0] }
def keycode_ReadRow.c {β : Type} (g9 : ByteArray → Option (Int × Int × Int × ByteArray × ByteArray × Int)) (s0 : ByteArray → (List (Int × (Int × (Int × (ByteArray × Unit))))) → Option ((List (Int × (Int × (Int × (ByteArray × Unit))))) × Int)) (a0 : ByteArray) (ret : ((List (Int × (Int × (Int × (ByteArray × Unit))))) × Int) → Option β) : Option β := ((s0 a0 []).bind ret)
def keycode_ReadRow.s0c {β : Type} (g9 : ByteArray → Option (Int × Int × Int × ByteArray × ByteArray × Int)) (s0 : ByteArray → (List (Int × (Int × (Int × (ByteArray × Unit))))) → Option ((List (Int × (Int × (Int × (ByteArray × Unit))))) × Int)) (x0 : ByteArray) (x1 : List (Int × (Int × (Int × (ByteArray × Unit))))) (ret : ((List (Int × (Int × (Int × (ByteArray × Unit))))) × Int) → Option β) : Option β := (bif (!((ByteArray.toList x0) == (ByteArray.toList (ByteArray.mk (List.toArray []))))) then ((g9 x0).bind fun r0 => (bif (r0.2.2.2.2.2 != (0 : Int)) then (ret ([], r0.2.2.2.2.2)) else (bif (decide ((((List.length x1) + (1 : Nat)) * (40 : Nat)) ≤ (35184372088832 : Nat))) then ((s0 r0.2.2.2.2.1 (x1 ++ [(r0.1, (r0.2.1, (r0.2.2.1, (r0.2.2.2.1, ()))))])).bind ret) else none))) else (ret (x1, (0 : Int))))
theorem keycode_ReadRow.c_bind {β : Type} (g9 : ByteArray → Option (Int × Int × Int × ByteArray × ByteArray × Int)) (s0 : ByteArray → (List (Int × (Int × (Int × (ByteArray × Unit))))) → Option ((List (Int × (Int × (Int × (ByteArray × Unit))))) × Int)) (a0 : ByteArray) (ret : ((List (Int × (Int × (Int × (ByteArray × Unit))))) × Int) → Option β) : keycode_ReadRow.c g9 s0 a0 ret = (keycode_ReadRow.c g9 s0 a0 some).bind ret := by
  simp only [keycode_ReadRow.c, bif_bind, sum_bind, Option.bind_assoc, Option.bind_some, Option.bind_none, Option.bind_fun_some]
theorem keycode_ReadRow.s0c_bind {β : Type} (g9 : ByteArray → Option (Int × Int × Int × ByteArray × ByteArray × Int)) (s0 : ByteArray → (List (Int × (Int × (Int × (ByteArray × Unit))))) → Option ((List (Int × (Int × (Int × (ByteArray × Unit))))) × Int)) (x0 : ByteArray) (x1 : List (Int × (Int × (Int × (ByteArray × Unit))))) (ret : ((List (Int × (Int × (Int × (ByteArray × Unit))))) × Int) → Option β) : keycode_ReadRow.s0c g9 s0 x0 x1 ret = (keycode_ReadRow.s0c g9 s0 x0 x1 some).bind ret := by
  simp only [keycode_ReadRow.s0c, bif_bind, sum_bind, Option.bind_assoc, Option.bind_some, Option.bind_none, Option.bind_fun_some]
theorem keycode_ReadRow.ev (g9 : ByteArray → Option (Int × Int × Int × ByteArray × ByteArray × Int)) (s0 : ByteArray → (List (Int × (Int × (Int × (ByteArray × Unit))))) → Option ((List (Int × (Int × (Int × (ByteArray × Unit))))) × Int)) (a0 : ByteArray) : evAt (env_keycode_ReadRow g9 s0) [] [0] [.v (.one (.d .str a0))] [] some = keycode_ReadRow.c g9 s0 a0 (fun r => some ⟨.tup [(.one (.d (.sl (.pair (.int .i64) (.pair (.int .i64) (.pair (.int .u64) (.pair .str .unit))))) r.1)), (.one (.d (.int .i64) r.2))], []⟩) := by
  kernel_rfl
theorem keycode_ReadRow.s0_ev (g9 : ByteArray → Option (Int × Int × Int × ByteArray × ByteArray × Int)) (s0 : ByteArray → (List (Int × (Int × (Int × (ByteArray × Unit))))) → Option ((List (Int × (Int × (Int × (ByteArray × Unit))))) × Int)) (x0 : ByteArray) (x1 : List (Int × (Int × (Int × (ByteArray × Unit))))) : evAt (env_keycode_ReadRow g9 s0) [4, 0, 1, 1] [0, 4] [.v (.one (.d .str x0)), .v (.one (.own 0))] [some (.own (.pair (.int .i64) (.pair (.int .i64) (.pair (.int .u64) (.pair .str .unit)))) false x1)] some = keycode_ReadRow.s0c g9 s0 x0 x1 (fun r => some ⟨.tup [(.one (.d (.sl (.pair (.int .i64) (.pair (.int .i64) (.pair (.int .u64) (.pair .str .unit))))) r.1)), (.one (.d (.int .i64) r.2))], []⟩) := by
  kernel_rfl
def keycode_ReadRow.s0 : Nat → ByteArray → (List (Int × (Int × (Int × (ByteArray × Unit))))) → Option ((List (Int × (Int × (Int × (ByteArray × Unit))))) × Int)
  | 0, _, _ => none
  | k + 1, x0, x1 => keycode_ReadRow.s0c (keycode_Read.f k) (keycode_ReadRow.s0 k) x0 x1 some
def keycode_ReadRow.f (k : Nat) (a0 : ByteArray) : Option ((List (Int × (Int × (Int × (ByteArray × Unit))))) × Int) := keycode_ReadRow.c (keycode_Read.f k) (keycode_ReadRow.s0 k) a0 some
theorem keycode_ReadRow.is (g9 : ByteArray → Option (Int × Int × Int × ByteArray × ByteArray × Int)) (s0 : ByteArray → (List (Int × (Int × (Int × (ByteArray × Unit))))) → Option ((List (Int × (Int × (Int × (ByteArray × Unit))))) × Int)) : FnIs (env_keycode_ReadRow g9 s0) 11 Go.Proofs.Try.f11 := ⟨Go.Proofs.Try.func11, rfl, rfl, rfl, by decide⟩
theorem keycode_ReadRow.envok (g9 : ByteArray → Option (Int × Int × Int × ByteArray × ByteArray × Int)) (s0 : ByteArray → (List (Int × (Int × (Int × (ByteArray × Unit))))) → Option ((List (Int × (Int × (Int × (ByteArray × Unit))))) × Int)) (h9 : CtOK Go.Proofs.Try.prog 9 (ct_keycode_Read g9)) : EnvOK (env_keycode_ReadRow g9 s0).toEnv := by
  intro f c h
  simp only [env_keycode_ReadRow] at h
  split at h
  · rename_i e; subst e; cases h; exact h9
  simp at h
theorem keycode_ReadRow.segs_ok : ∀ k, ∀ s ∈ (env_keycode_ReadRow (keycode_Read.f k) (keycode_ReadRow.s0 k)).segs, SegOK (env_keycode_ReadRow (keycode_Read.f k) (keycode_ReadRow.s0 k)) Go.Proofs.Try.f11 s
  | 0 => by
    intro s hs
    simp only [env_keycode_ReadRow, List.mem_cons, List.not_mem_nil, or_false] at hs
    rcases hs with rfl
    · intro tvs blks res h; exfalso; simp only [seg_keycode_ReadRow_0] at h; split at h <;> simp [keycode_ReadRow.s0] at h
  | k + 1 => by
    have ih := keycode_ReadRow.segs_ok k
    intro s hs
    simp only [env_keycode_ReadRow, List.mem_cons, List.not_mem_nil, or_false] at hs
    rcases hs with rfl
    · refine seg_of_ev (E := env_keycode_ReadRow (keycode_Read.f k) (keycode_ReadRow.s0 k)) (keycode_ReadRow.envok _ _  (keycode_Read.ok k)) ⟨(keycode_ReadRow.is (keycode_Read.f k) (keycode_ReadRow.s0 k)).rvs⟩ ih ?_
      intro tvs blks res h
      simp only [seg_keycode_ReadRow_0] at h
      split at h
      · refine (keycode_ReadRow.s0_ev (keycode_Read.f k) (keycode_ReadRow.s0 k) _ _ ).trans ?_
        rw [keycode_ReadRow.s0c_bind]
        exact h
      · simp at h
theorem keycode_ReadRow.ok (k : Nat) : CtOK Go.Proofs.Try.prog 11 (ct_keycode_ReadRow (keycode_ReadRow.f k)) := by
  refine ct_of_ev (E := env_keycode_ReadRow (keycode_Read.f k) (keycode_ReadRow.s0 k)) (keycode_ReadRow.is _ _ ) (keycode_ReadRow.envok _ _  (keycode_Read.ok k)) (keycode_ReadRow.segs_ok k) rfl ?_
  intro tvs blks res h
  simp only [ct_keycode_ReadRow] at h
  split at h
  · refine (keycode_ReadRow.ev (keycode_Read.f k) (keycode_ReadRow.s0 k) _ ).trans ?_
    rw [keycode_ReadRow.c_bind]
    exact h
  · simp at h

/-! ### keycode_After: function 15 -/
def ct_keycode_After (g : ByteArray → Option ByteArray) : Ct where
  nin := 0
  mv := []
  F := fun tvs blks {β} K => match tvs, blks with
    | [.v (.one (.d .str a0))], [] => (g a0).bind fun r => K ⟨.v (.one (.d .str r)), []⟩
    | _, _ => none
  legit := fun tvs blks K r h => by
    split at h
    · obtain ⟨x, hx, hk⟩ := Option.bind_eq_some_iff.1 h
      refine ⟨_, ?_, hk⟩
      simp only [hx, Option.bind_some]
    · simp at h
def seg_keycode_After_0 (g : ByteArray → Int → Option ByteArray) : Seg where
  path := [4, 1, 0, 1]
  prep := []
  keep := [0, 3]
  F := fun tvs blks {β} K => match tvs, blks with
    | [.v (.one (.d .str x0)), .v (.one (.d (.int .i64) x1))], [] => (g x0 x1).bind fun r => K ⟨.v (.one (.d .str r)), []⟩
    | _, _ => none
  legit := fun tvs blks K r h => by
    split at h
    · obtain ⟨x, hx, hk⟩ := Option.bind_eq_some_iff.1 h
      refine ⟨_, ?_, hk⟩
      simp only [hx, Option.bind_some]
    · simp at h
noncomputable def env_keycode_After  (s0 : ByteArray → Int → Option ByteArray) : FEnv := { P := Go.Proofs.Try.prog, ct := fun m => none, N := 25, body := Go.Proofs.Try.f15.body.getD .skip, rvs := [.tmp 2], rts := [9], nin := 0, rmv := [], segs := [seg_keycode_After_0 s0] }
def keycode_After.c {β : Type}  (s0 : ByteArray → Int → Option ByteArray) (a0 : ByteArray) (ret : ByteArray → Option β) : Option β := ((s0 a0 (IntKind.wrap IntKind.i64 (((ByteArray.size a0) : Int) - (1 : Int)))).bind ret)
def keycode_After.s0c {β : Type}  (s0 : ByteArray → Int → Option ByteArray) (x0 : ByteArray) (x1 : Int) (ret : ByteArray → Option β) : Option β := (bif (decide (x1 ≥ (0 : Int))) then (bif ((decide ((0 : Int) ≤ x1)) && (decide (x1 < ((ByteArray.size x0) : Int)))) then (bif ((bt x0 x1) != (255 : Int)) then (bif ((true && (decide ((0 : Int) ≤ x1))) && (decide (x1 ≤ ((ByteArray.size x0) : Int)))) then (bif ((decide ((ByteArray.size (ByteArray.extract x0 (0 : Nat) (Int.toNat x1))) ≤ (4611686018427387903 : Nat))) && true) then (ret (((ByteArray.extract x0 (0 : Nat) (Int.toNat x1)) ++ (ByteArray.mk (List.toArray (List.map (fun n => (UInt8.ofNat (Int.toNat n))) [(IntKind.wrap IntKind.u8 ((bt x0 x1) + (1 : Int)))])))))) else none) else none) else ((s0 x0 (IntKind.wrap IntKind.i64 (x1 - (1 : Int)))).bind ret)) else none) else (ret ((ByteArray.mk (List.toArray [])))))
theorem keycode_After.c_bind {β : Type}  (s0 : ByteArray → Int → Option ByteArray) (a0 : ByteArray) (ret : ByteArray → Option β) : keycode_After.c  s0 a0 ret = (keycode_After.c  s0 a0 some).bind ret := by
  simp only [keycode_After.c, bif_bind, sum_bind, Option.bind_assoc, Option.bind_some, Option.bind_none, Option.bind_fun_some]
theorem keycode_After.s0c_bind {β : Type}  (s0 : ByteArray → Int → Option ByteArray) (x0 : ByteArray) (x1 : Int) (ret : ByteArray → Option β) : keycode_After.s0c  s0 x0 x1 ret = (keycode_After.s0c  s0 x0 x1 some).bind ret := by
  simp only [keycode_After.s0c, bif_bind, sum_bind, Option.bind_assoc, Option.bind_some, Option.bind_none, Option.bind_fun_some]
theorem keycode_After.ev  (s0 : ByteArray → Int → Option ByteArray) (a0 : ByteArray) : evAt (env_keycode_After  s0) [] [0] [.v (.one (.d .str a0))] [] some = keycode_After.c  s0 a0 (fun r => some ⟨.v (.one (.d .str r)), []⟩) := by
  kernel_rfl
theorem keycode_After.s0_ev  (s0 : ByteArray → Int → Option ByteArray) (x0 : ByteArray) (x1 : Int) : evAt (env_keycode_After  s0) [4, 1, 0, 1] [0, 3] [.v (.one (.d .str x0)), .v (.one (.d (.int .i64) x1))] [] some = keycode_After.s0c  s0 x0 x1 (fun r => some ⟨.v (.one (.d .str r)), []⟩) := by
  kernel_rfl
def keycode_After.s0 : Nat → ByteArray → Int → Option ByteArray
  | 0, _, _ => none
  | k + 1, x0, x1 => keycode_After.s0c  (keycode_After.s0 k) x0 x1 some
def keycode_After.f (k : Nat) (a0 : ByteArray) : Option ByteArray := keycode_After.c  (keycode_After.s0 k) a0 some
theorem keycode_After.is  (s0 : ByteArray → Int → Option ByteArray) : FnIs (env_keycode_After  s0) 15 Go.Proofs.Try.f15 := ⟨Go.Proofs.Try.func15, rfl, rfl, rfl, by decide⟩
theorem keycode_After.envok  (s0 : ByteArray → Int → Option ByteArray)  : EnvOK (env_keycode_After  s0).toEnv := by
  intro f c h
  simp only [env_keycode_After] at h
  simp at h
theorem keycode_After.segs_ok : ∀ k, ∀ s ∈ (env_keycode_After  (keycode_After.s0 k)).segs, SegOK (env_keycode_After  (keycode_After.s0 k)) Go.Proofs.Try.f15 s
  | 0 => by
    intro s hs
    simp only [env_keycode_After, List.mem_cons, List.not_mem_nil, or_false] at hs
    rcases hs with rfl
    · intro tvs blks res h; exfalso; simp only [seg_keycode_After_0] at h; split at h <;> simp [keycode_After.s0] at h
  | k + 1 => by
    have ih := keycode_After.segs_ok k
    intro s hs
    simp only [env_keycode_After, List.mem_cons, List.not_mem_nil, or_false] at hs
    rcases hs with rfl
    · refine seg_of_ev (E := env_keycode_After  (keycode_After.s0 k)) (keycode_After.envok _  ) ⟨(keycode_After.is  (keycode_After.s0 k)).rvs⟩ ih ?_
      intro tvs blks res h
      simp only [seg_keycode_After_0] at h
      split at h
      · refine (keycode_After.s0_ev  (keycode_After.s0 k) _ _ ).trans ?_
        rw [keycode_After.s0c_bind]
        exact h
      · simp at h
theorem keycode_After.ok (k : Nat) : CtOK Go.Proofs.Try.prog 15 (ct_keycode_After (keycode_After.f k)) := by
  refine ct_of_ev (E := env_keycode_After  (keycode_After.s0 k)) (keycode_After.is _ ) (keycode_After.envok _  ) (keycode_After.segs_ok k) rfl ?_
  intro tvs blks res h
  simp only [ct_keycode_After] at h
  split at h
  · refine (keycode_After.ev  (keycode_After.s0 k) _ ).trans ?_
    rw [keycode_After.c_bind]
    exact h
  · simp at h

/-! ### keycode_put8: function 51 -/
def ct_keycode_put8 (g : Int → (List Int) → Option ((List Int))) : Ct where
  nin := 0
  mv := [0]
  F := fun tvs blks {β} K => match tvs, blks with
    | [.v (.one (.own 0)), .v (.one (.d (.int .u64) a0))], [.own (.int .u8) false a1] => (g a0 a1).bind fun r => K ⟨.v (.one (.own 0)), [some (.own (.int .u8) false r)]⟩
    | _, _ => none
  legit := fun tvs blks K r h => by
    split at h
    · obtain ⟨x, hx, hk⟩ := Option.bind_eq_some_iff.1 h
      refine ⟨_, ?_, hk⟩
      simp only [hx, Option.bind_some]
    · simp at h
def seg_keycode_put8_0 (g : Int → Int → (List Int) → Option ((List Int))) : Seg where
  path := [4, 1, 0, 1]
  prep := []
  keep := [0, 1, 5]
  F := fun tvs blks {β} K => match tvs, blks with
    | [.v (.one (.own 0)), .v (.one (.d (.int .u64) x0)), .v (.one (.d (.int .i64) x1))], [some (.own (.int .u8) false x2)] => (g x0 x1 x2).bind fun r => K ⟨.v (.one (.own 0)), [some (.own (.int .u8) false r)]⟩
    | _, _ => none
  legit := fun tvs blks K r h => by
    split at h
    · obtain ⟨x, hx, hk⟩ := Option.bind_eq_some_iff.1 h
      refine ⟨_, ?_, hk⟩
      simp only [hx, Option.bind_some]
    · simp at h
noncomputable def env_keycode_put8  (s0 : Int → Int → (List Int) → Option ((List Int))) : FEnv := { P := Go.Proofs.Try.prog, ct := fun m => none, N := 18, body := Go.Proofs.Try.f51.body.getD .skip, rvs := [.tmp 4], rts := [62], nin := 0, rmv := [0], segs := [seg_keycode_put8_0 s0] }
def keycode_put8.c {β : Type}  (s0 : Int → Int → (List Int) → Option ((List Int))) (a0 : Int) (a1 : List Int) (ret : ((List Int)) → Option β) : Option β := ((s0 a0 (56 : Int) a1).bind ret)
def keycode_put8.s0c {β : Type}  (s0 : Int → Int → (List Int) → Option ((List Int))) (x0 : Int) (x1 : Int) (x2 : List Int) (ret : ((List Int)) → Option β) : Option β := (bif (decide (x1 ≥ (0 : Int))) then (bif (decide ((0 : Int) ≤ x1)) then (bif (decide ((((List.length x2) + (1 : Nat)) * (1 : Nat)) ≤ (35184372088832 : Nat))) then ((s0 x0 (IntKind.wrap IntKind.i64 (x1 - (8 : Int))) (x2 ++ [(IntKind.wrap IntKind.u8 (Int.fdiv x0 ((2 : Int) ^ (Min.min (Int.toNat x1) (64 : Nat)))))])).bind ret) else none) else none) else (ret (x2)))
theorem keycode_put8.c_bind {β : Type}  (s0 : Int → Int → (List Int) → Option ((List Int))) (a0 : Int) (a1 : List Int) (ret : ((List Int)) → Option β) : keycode_put8.c  s0 a0 a1 ret = (keycode_put8.c  s0 a0 a1 some).bind ret := by
  simp only [keycode_put8.c, bif_bind, sum_bind, Option.bind_assoc, Option.bind_some, Option.bind_none, Option.bind_fun_some]
theorem keycode_put8.s0c_bind {β : Type}  (s0 : Int → Int → (List Int) → Option ((List Int))) (x0 : Int) (x1 : Int) (x2 : List Int) (ret : ((List Int)) → Option β) : keycode_put8.s0c  s0 x0 x1 x2 ret = (keycode_put8.s0c  s0 x0 x1 x2 some).bind ret := by
  simp only [keycode_put8.s0c, bif_bind, sum_bind, Option.bind_assoc, Option.bind_some, Option.bind_none, Option.bind_fun_some]
theorem keycode_put8.ev  (s0 : Int → Int → (List Int) → Option ((List Int))) (a0 : Int) (a1 : List Int) : evAt (env_keycode_put8  s0) [] [0, 1] [.v (.one (.own 0)), .v (.one (.d (.int .u64) a0))] [some (.own (.int .u8) false a1)] some = keycode_put8.c  s0 a0 a1 (fun r => some ⟨.v (.one (.own 0)), [some (.own (.int .u8) false r)]⟩) := by
  kernel_rfl
theorem keycode_put8.s0_ev  (s0 : Int → Int → (List Int) → Option ((List Int))) (x0 : Int) (x1 : Int) (x2 : List Int) : evAt (env_keycode_put8  s0) [4, 1, 0, 1] [0, 1, 5] [.v (.one (.own 0)), .v (.one (.d (.int .u64) x0)), .v (.one (.d (.int .i64) x1))] [some (.own (.int .u8) false x2)] some = keycode_put8.s0c  s0 x0 x1 x2 (fun r => some ⟨.v (.one (.own 0)), [some (.own (.int .u8) false r)]⟩) := by
  kernel_rfl
def keycode_put8.s0 : Nat → Int → Int → (List Int) → Option ((List Int))
  | 0, _, _, _ => none
  | k + 1, x0, x1, x2 => keycode_put8.s0c  (keycode_put8.s0 k) x0 x1 x2 some
def keycode_put8.f (k : Nat) (a0 : Int) (a1 : List Int) : Option ((List Int)) := keycode_put8.c  (keycode_put8.s0 k) a0 a1 some
theorem keycode_put8.is  (s0 : Int → Int → (List Int) → Option ((List Int))) : FnIs (env_keycode_put8  s0) 51 Go.Proofs.Try.f51 := ⟨Go.Proofs.Try.func51, rfl, rfl, rfl, by decide⟩
theorem keycode_put8.envok  (s0 : Int → Int → (List Int) → Option ((List Int)))  : EnvOK (env_keycode_put8  s0).toEnv := by
  intro f c h
  simp only [env_keycode_put8] at h
  simp at h
theorem keycode_put8.segs_ok : ∀ k, ∀ s ∈ (env_keycode_put8  (keycode_put8.s0 k)).segs, SegOK (env_keycode_put8  (keycode_put8.s0 k)) Go.Proofs.Try.f51 s
  | 0 => by
    intro s hs
    simp only [env_keycode_put8, List.mem_cons, List.not_mem_nil, or_false] at hs
    rcases hs with rfl
    · intro tvs blks res h; exfalso; simp only [seg_keycode_put8_0] at h; split at h <;> simp [keycode_put8.s0] at h
  | k + 1 => by
    have ih := keycode_put8.segs_ok k
    intro s hs
    simp only [env_keycode_put8, List.mem_cons, List.not_mem_nil, or_false] at hs
    rcases hs with rfl
    · refine seg_of_ev (E := env_keycode_put8  (keycode_put8.s0 k)) (keycode_put8.envok _  ) ⟨(keycode_put8.is  (keycode_put8.s0 k)).rvs⟩ ih ?_
      intro tvs blks res h
      simp only [seg_keycode_put8_0] at h
      split at h
      · refine (keycode_put8.s0_ev  (keycode_put8.s0 k) _ _ _ ).trans ?_
        rw [keycode_put8.s0c_bind]
        exact h
      · simp at h
theorem keycode_put8.ok (k : Nat) : CtOK Go.Proofs.Try.prog 51 (ct_keycode_put8 (keycode_put8.f k)) := by
  refine ct_of_ev (E := env_keycode_put8  (keycode_put8.s0 k)) (keycode_put8.is _ ) (keycode_put8.envok _  ) (keycode_put8.segs_ok k) rfl ?_
  intro tvs blks res h
  simp only [ct_keycode_put8] at h
  split at h
  · refine (keycode_put8.ev  (keycode_put8.s0 k) _ _ ).trans ?_
    rw [keycode_put8.c_bind]
    exact h
  · simp at h

/-! ### reals_Key: function 52 -/
def ct_reals_Key (g : Int → Option Int) : Ct where
  nin := 0
  mv := []
  F := fun tvs blks {β} K => match tvs, blks with
    | [.v (.one (.d (.int .u64) a0))], [] => (g a0).bind fun r => K ⟨.v (.one (.d (.int .u64) r)), []⟩
    | _, _ => none
  legit := fun tvs blks K r h => by
    split at h
    · obtain ⟨x, hx, hk⟩ := Option.bind_eq_some_iff.1 h
      refine ⟨_, ?_, hk⟩
      simp only [hx, Option.bind_some]
    · simp at h
noncomputable def env_reals_Key (g46 : Int → Option Int)  : FEnv := { P := Go.Proofs.Try.prog, ct := fun m => if m = 46 then some (ct_reals_Canon g46) else none, N := 12, body := Go.Proofs.Try.f52.body.getD .skip, rvs := [.tmp 2], rts := [23], nin := 0, rmv := [], segs := [] }
def reals_Key.c {β : Type} (g46 : Int → Option Int)  (a0 : Int) (ret : Int → Option β) : Option β := ((g46 a0).bind fun r0 => (bif ((IntKind.wrap IntKind.u64 ((BitVec.toNat ((BitVec.ofInt (64 : Nat) r0) &&& (BitVec.ofInt (64 : Nat) (9223372036854775808 : Int)))) : Int)) != (0 : Int)) then (ret ((IntKind.wrap IntKind.u64 ((BitVec.toNat ((BitVec.ofInt (64 : Nat) (18446744073709551615 : Int)) ^^^ (BitVec.ofInt (64 : Nat) r0))) : Int)))) else (ret ((IntKind.wrap IntKind.u64 ((BitVec.toNat ((BitVec.ofInt (64 : Nat) r0) ||| (BitVec.ofInt (64 : Nat) (9223372036854775808 : Int)))) : Int))))))
theorem reals_Key.c_bind {β : Type} (g46 : Int → Option Int)  (a0 : Int) (ret : Int → Option β) : reals_Key.c g46  a0 ret = (reals_Key.c g46  a0 some).bind ret := by
  simp only [reals_Key.c, bif_bind, sum_bind, Option.bind_assoc, Option.bind_some, Option.bind_none, Option.bind_fun_some]
theorem reals_Key.ev (g46 : Int → Option Int)  (a0 : Int) : evAt (env_reals_Key g46 ) [] [0] [.v (.one (.d (.int .u64) a0))] [] some = reals_Key.c g46  a0 (fun r => some ⟨.v (.one (.d (.int .u64) r)), []⟩) := by
  kernel_rfl
def reals_Key.f (k : Nat) (a0 : Int) : Option Int := reals_Key.c (reals_Canon.f k)  a0 some
theorem reals_Key.is (g46 : Int → Option Int)  : FnIs (env_reals_Key g46 ) 52 Go.Proofs.Try.f52 := ⟨Go.Proofs.Try.func52, rfl, rfl, rfl, by decide⟩
theorem reals_Key.envok (g46 : Int → Option Int)  (h46 : CtOK Go.Proofs.Try.prog 46 (ct_reals_Canon g46)) : EnvOK (env_reals_Key g46 ).toEnv := by
  intro f c h
  simp only [env_reals_Key] at h
  split at h
  · rename_i e; subst e; cases h; exact h46
  simp at h
theorem reals_Key.ok (k : Nat) : CtOK Go.Proofs.Try.prog 52 (ct_reals_Key (reals_Key.f k)) := by
  refine ct_of_ev (E := env_reals_Key (reals_Canon.f k) ) (reals_Key.is _ ) (reals_Key.envok _  (reals_Canon.ok k)) (fun s hs => by simp [env_reals_Key] at hs) rfl ?_
  intro tvs blks res h
  simp only [ct_reals_Key] at h
  split at h
  · refine (reals_Key.ev (reals_Canon.f k)  _ ).trans ?_
    rw [reals_Key.c_bind]
    exact h
  · simp at h

/-! ### keycode_escaped: function 53 -/
def ct_keycode_escaped (g : ByteArray → Option ByteArray) : Ct where
  nin := 0
  mv := []
  F := fun tvs blks {β} K => match tvs, blks with
    | [.v (.one (.d .str a0))], [] => (g a0).bind fun r => K ⟨.v (.one (.fn 61 [(0, 0)])), [some (.box [(.d .str r)])]⟩
    | _, _ => none
  legit := fun tvs blks K r h => by
    split at h
    · obtain ⟨x, hx, hk⟩ := Option.bind_eq_some_iff.1 h
      refine ⟨_, ?_, hk⟩
      simp only [hx, Option.bind_some]
    · simp at h
noncomputable def env_keycode_escaped   : FEnv := { P := Go.Proofs.Try.prog, ct := fun m => none, N := 4, body := Go.Proofs.Try.f53.body.getD .skip, rvs := [.tmp 2], rts := [78], nin := 0, rmv := [], segs := [] }
def keycode_escaped.c {β : Type}   (a0 : ByteArray) (ret : ByteArray → Option β) : Option β := (ret (a0))
theorem keycode_escaped.c_bind {β : Type}   (a0 : ByteArray) (ret : ByteArray → Option β) : keycode_escaped.c   a0 ret = (keycode_escaped.c   a0 some).bind ret := by
  simp only [keycode_escaped.c, bif_bind, sum_bind, Option.bind_assoc, Option.bind_some, Option.bind_none, Option.bind_fun_some]
theorem keycode_escaped.ev   (a0 : ByteArray) : evAt (env_keycode_escaped  ) [] [0] [.v (.one (.d .str a0))] [] some = keycode_escaped.c   a0 (fun r => some ⟨.v (.one (.fn 61 [(0, 0)])), [some (.box [(.d .str r)])]⟩) := by
  kernel_rfl
def keycode_escaped.f (k : Nat) (a0 : ByteArray) : Option ByteArray := keycode_escaped.c   a0 some
theorem keycode_escaped.is   : FnIs (env_keycode_escaped  ) 53 Go.Proofs.Try.f53 := ⟨Go.Proofs.Try.func53, rfl, rfl, rfl, by decide⟩
theorem keycode_escaped.envok    : EnvOK (env_keycode_escaped  ).toEnv := by
  intro f c h
  simp only [env_keycode_escaped] at h
  simp at h
theorem keycode_escaped.ok (k : Nat) : CtOK Go.Proofs.Try.prog 53 (ct_keycode_escaped (keycode_escaped.f k)) := by
  refine ct_of_ev (E := env_keycode_escaped  ) (keycode_escaped.is ) (keycode_escaped.envok  ) (fun s hs => by simp [env_keycode_escaped] at hs) rfl ?_
  intro tvs blks res h
  simp only [ct_keycode_escaped] at h
  split at h
  · refine (keycode_escaped.ev   _ ).trans ?_
    rw [keycode_escaped.c_bind]
    exact h
  · simp at h
end Go.Proofs.Ytpcojbnoadnknaa.Aev
