/- By a program of this session (AEV): functions of the program as plain functions, and that the machine does what they say. -/
import Derived.Test.YtpcojbnoadnknaaAevW
import Derived.Test.YtpcojbnoadnknaaProg
import Derived.Laws.Externs
import Derived.Lib.Bytealg
namespace Go.Proofs.Ytpcojbnoadnknaa.Aev
set_option linter.unusedVariables false
set_option linter.unusedSimpArgs false
set_option maxRecDepth 100000
set_option maxHeartbeats 4000000
open Go
/-! ### keycode_need: function 25 -/
def ct_keycode_need (g : Int → Option Int) : Ct where
  nin := 0
  mv := []
  F := fun tvs blks {β} K => match tvs, blks with
    | [.v (.one (.d (.int .i64) a0))], [] => (g a0).bind fun r => K ⟨.v (.one (.d (.int .i64) r)), []⟩
    | _, _ => none
  legit := fun tvs blks K r h => by
    split at h
    · obtain ⟨x, hx, hk⟩ := Option.bind_eq_some_iff.1 h
      refine ⟨_, ?_, hk⟩
      simp only [hx, Option.bind_some]
    · simp at h
noncomputable def env_keycode_need   : FEnv := { P := Go.Proofs.Try.prog, ct := fun m => none, N := 9, body := Go.Proofs.Try.f25.body.getD .skip, rvs := [.tmp 2], rts := [3], nin := 0, rmv := [], segs := [] }
def keycode_need.c {β : Type}   (a0 : Int) (ret : Int → Option β) : Option β := (bif (a0 == (1 : Int)) then (ret ((1 : Int))) else (bif (a0 == (2 : Int)) then (bif (a0 == (2 : Int)) then (ret ((8 : Int))) else (ret ((0 : Int)))) else (bif (a0 == (3 : Int)) then (ret ((8 : Int))) else (ret ((0 : Int))))))
theorem keycode_need.c_bind {β : Type}   (a0 : Int) (ret : Int → Option β) : keycode_need.c   a0 ret = (keycode_need.c   a0 some).bind ret := by
  simp only [keycode_need.c, bif_bind, sum_bind, Option.bind_assoc, Option.bind_some, Option.bind_none, Option.bind_fun_some]
theorem keycode_need.ev   (a0 : Int) : evAt (env_keycode_need  ) [] [0] [.v (.one (.d (.int .i64) a0))] [] some = keycode_need.c   a0 (fun r => some ⟨.v (.one (.d (.int .i64) r)), []⟩) := by
  kernel_rfl
def keycode_need.f (k : Nat) (a0 : Int) : Option Int := keycode_need.c   a0 some
theorem keycode_need.is   : FnIs (env_keycode_need  ) 25 Go.Proofs.Try.f25 := ⟨Go.Proofs.Try.func25, rfl, rfl, rfl, by decide⟩
theorem keycode_need.envok    : EnvOK (env_keycode_need  ).toEnv := by
  intro f c h
  simp only [env_keycode_need] at h
  simp at h
theorem keycode_need.ok (k : Nat) : CtOK Go.Proofs.Try.prog 25 (ct_keycode_need (keycode_need.f k)) := by
  refine ct_of_ev (E := env_keycode_need  ) (keycode_need.is ) (keycode_need.envok  ) (fun s hs => by simp [env_keycode_need] at hs) rfl ?_
  intro tvs blks res h
  simp only [ct_keycode_need] at h
  split at h
  · refine (keycode_need.ev   _ ).trans ?_
    rw [keycode_need.c_bind]
    exact h
  · simp at h

/-! ### keycode_get8: function 26 -/
def ct_keycode_get8 (g : ByteArray → Option Int) : Ct where
  nin := 0
  mv := []
  F := fun tvs blks {β} K => match tvs, blks with
    | [.v (.one (.d .str a0))], [] => (g a0).bind fun r => K ⟨.v (.one (.d (.int .u64) r)), []⟩
    | _, _ => none
  legit := fun tvs blks K r h => by
    split at h
    · obtain ⟨x, hx, hk⟩ := Option.bind_eq_some_iff.1 h
      refine ⟨_, ?_, hk⟩
      simp only [hx, Option.bind_some]
    · simp at h
def seg_keycode_get8_0 (g : ByteArray → Int → Int → Option Int) : Seg where
  path := [4, 1, 0, 1, 1]
  prep := []
  keep := [0, 3, 5]
  F := fun tvs blks {β} K => match tvs, blks with
    | [.v (.one (.d .str x0)), .v (.one (.d (.int .u64) x1)), .v (.one (.d (.int .i64) x2))], [] => (g x0 x1 x2).bind fun r => K ⟨.v (.one (.d (.int .u64) r)), []⟩
    | _, _ => none
  legit := fun tvs blks K r h => by
    split at h
    · obtain ⟨x, hx, hk⟩ := Option.bind_eq_some_iff.1 h
      refine ⟨_, ?_, hk⟩
      simp only [hx, Option.bind_some]
    · simp at h
noncomputable def env_keycode_get8  (s0 : ByteArray → Int → Int → Option Int) : FEnv := { P := Go.Proofs.Try.prog, ct := fun m => none, N := 17, body := Go.Proofs.Try.f26.body.getD .skip, rvs := [.tmp 2], rts := [23], nin := 0, rmv := [], segs := [seg_keycode_get8_0 s0] }
def keycode_get8.c {β : Type}  (s0 : ByteArray → Int → Int → Option Int) (a0 : ByteArray) (ret : Int → Option β) : Option β := ((s0 a0 (0 : Int) (0 : Int)).bind ret)
def keycode_get8.s0c {β : Type}  (s0 : ByteArray → Int → Int → Option Int) (x0 : ByteArray) (x1 : Int) (x2 : Int) (ret : Int → Option β) : Option β := (bif (decide (x2 < (8 : Int))) then (bif ((decide ((0 : Int) ≤ x2)) && (decide (x2 < ((ByteArray.size x0) : Int)))) then ((s0 x0 (IntKind.wrap IntKind.u64 ((BitVec.toNat ((BitVec.ofInt (64 : Nat) (IntKind.wrap IntKind.u64 (x1 * (256 : Int)))) ||| (BitVec.ofInt (64 : Nat) (IntKind.wrap IntKind.u64 (bt x0 x2))))) : Int)) (IntKind.wrap IntKind.i64 (x2 + (1 : Int)))).bind ret) else none) else (ret (x1)))
theorem keycode_get8.c_bind {β : Type}  (s0 : ByteArray → Int → Int → Option Int) (a0 : ByteArray) (ret : Int → Option β) : keycode_get8.c  s0 a0 ret = (keycode_get8.c  s0 a0 some).bind ret := by
  simp only [keycode_get8.c, bif_bind, sum_bind, Option.bind_assoc, Option.bind_some, Option.bind_none, Option.bind_fun_some]
theorem keycode_get8.s0c_bind {β : Type}  (s0 : ByteArray → Int → Int → Option Int) (x0 : ByteArray) (x1 : Int) (x2 : Int) (ret : Int → Option β) : keycode_get8.s0c  s0 x0 x1 x2 ret = (keycode_get8.s0c  s0 x0 x1 x2 some).bind ret := by
  simp only [keycode_get8.s0c, bif_bind, sum_bind, Option.bind_assoc, Option.bind_some, Option.bind_none, Option.bind_fun_some]
theorem keycode_get8.ev  (s0 : ByteArray → Int → Int → Option Int) (a0 : ByteArray) : evAt (env_keycode_get8  s0) [] [0] [.v (.one (.d .str a0))] [] some = keycode_get8.c  s0 a0 (fun r => some ⟨.v (.one (.d (.int .u64) r)), []⟩) := by
  kernel_rfl
theorem keycode_get8.s0_ev  (s0 : ByteArray → Int → Int → Option Int) (x0 : ByteArray) (x1 : Int) (x2 : Int) : evAt (env_keycode_get8  s0) [4, 1, 0, 1, 1] [0, 3, 5] [.v (.one (.d .str x0)), .v (.one (.d (.int .u64) x1)), .v (.one (.d (.int .i64) x2))] [] some = keycode_get8.s0c  s0 x0 x1 x2 (fun r => some ⟨.v (.one (.d (.int .u64) r)), []⟩) := by
  kernel_rfl
def keycode_get8.s0 : Nat → ByteArray → Int → Int → Option Int
  | 0, _, _, _ => none
  | k + 1, x0, x1, x2 => keycode_get8.s0c  (keycode_get8.s0 k) x0 x1 x2 some
def keycode_get8.f (k : Nat) (a0 : ByteArray) : Option Int := keycode_get8.c  (keycode_get8.s0 k) a0 some
theorem keycode_get8.is  (s0 : ByteArray → Int → Int → Option Int) : FnIs (env_keycode_get8  s0) 26 Go.Proofs.Try.f26 := ⟨Go.Proofs.Try.func26, rfl, rfl, rfl, by decide⟩
theorem keycode_get8.envok  (s0 : ByteArray → Int → Int → Option Int)  : EnvOK (env_keycode_get8  s0).toEnv := by
  intro f c h
  simp only [env_keycode_get8] at h
  simp at h
theorem keycode_get8.segs_ok : ∀ k, ∀ s ∈ (env_keycode_get8  (keycode_get8.s0 k)).segs, SegOK (env_keycode_get8  (keycode_get8.s0 k)) Go.Proofs.Try.f26 s
  | 0 => by
    intro s hs
    simp only [env_keycode_get8, List.mem_cons, List.not_mem_nil, or_false] at hs
    rcases hs with rfl
    · intro tvs blks res h; exfalso; simp only [seg_keycode_get8_0] at h; split at h <;> simp [keycode_get8.s0] at h
  | k + 1 => by
    have ih := keycode_get8.segs_ok k
    intro s hs
    simp only [env_keycode_get8, List.mem_cons, List.not_mem_nil, or_false] at hs
    rcases hs with rfl
    · refine seg_of_ev (E := env_keycode_get8  (keycode_get8.s0 k)) (keycode_get8.envok _  ) ⟨(keycode_get8.is  (keycode_get8.s0 k)).rvs⟩ ih ?_
      intro tvs blks res h
      simp only [seg_keycode_get8_0] at h
      split at h
      · refine (keycode_get8.s0_ev  (keycode_get8.s0 k) _ _ _ ).trans ?_
        rw [keycode_get8.s0c_bind]
        exact h
      · simp at h
theorem keycode_get8.ok (k : Nat) : CtOK Go.Proofs.Try.prog 26 (ct_keycode_get8 (keycode_get8.f k)) := by
  refine ct_of_ev (E := env_keycode_get8  (keycode_get8.s0 k)) (keycode_get8.is _ ) (keycode_get8.envok _  ) (keycode_get8.segs_ok k) rfl ?_
  intro tvs blks res h
  simp only [ct_keycode_get8] at h
  split at h
  · refine (keycode_get8.ev  (keycode_get8.s0 k) _ ).trans ?_
    rw [keycode_get8.c_bind]
    exact h
  · simp at h

/-! ### reals_bytes: function 45 -/
def ct_reals_bytes (g : Int → Option (Int × Int × Int × Int × Int × Int × Int × Int)) : Ct where
  nin := 0
  mv := []
  F := fun tvs blks {β} K => match tvs, blks with
    | [.v (.one (.d (.int .u64) a0))], [] => (g a0).bind fun r => K ⟨.v (.agg [(.d (.int .u8) r.1), (.d (.int .u8) r.2.1), (.d (.int .u8) r.2.2.1), (.d (.int .u8) r.2.2.2.1), (.d (.int .u8) r.2.2.2.2.1), (.d (.int .u8) r.2.2.2.2.2.1), (.d (.int .u8) r.2.2.2.2.2.2.1), (.d (.int .u8) r.2.2.2.2.2.2.2)]), []⟩
    | _, _ => none
  legit := fun tvs blks K r h => by
    split at h
    · obtain ⟨x, hx, hk⟩ := Option.bind_eq_some_iff.1 h
      refine ⟨_, ?_, hk⟩
      simp only [hx, Option.bind_some]
    · simp at h
noncomputable def env_reals_bytes   : FEnv := { P := Go.Proofs.Try.prog, ct := fun m => none, N := 18, body := Go.Proofs.Try.f45.body.getD .skip, rvs := [.cell 2 73], rts := [73], nin := 0, rmv := [], segs := [] }
def reals_bytes.c {β : Type}   (a0 : Int) (ret : (Int × Int × Int × Int × Int × Int × Int × Int) → Option β) : Option β := (ret ((IntKind.wrap IntKind.u8 (Int.fdiv a0 (72057594037927936 : Int))), (IntKind.wrap IntKind.u8 (Int.fdiv a0 (281474976710656 : Int))), (IntKind.wrap IntKind.u8 (Int.fdiv a0 (1099511627776 : Int))), (IntKind.wrap IntKind.u8 (Int.fdiv a0 (4294967296 : Int))), (IntKind.wrap IntKind.u8 (Int.fdiv a0 (16777216 : Int))), (IntKind.wrap IntKind.u8 (Int.fdiv a0 (65536 : Int))), (IntKind.wrap IntKind.u8 (Int.fdiv a0 (256 : Int))), (IntKind.wrap IntKind.u8 (Int.fdiv a0 (1 : Int)))))
theorem reals_bytes.c_bind {β : Type}   (a0 : Int) (ret : (Int × Int × Int × Int × Int × Int × Int × Int) → Option β) : reals_bytes.c   a0 ret = (reals_bytes.c   a0 some).bind ret := by
  simp only [reals_bytes.c, bif_bind, sum_bind, Option.bind_assoc, Option.bind_some, Option.bind_none, Option.bind_fun_some]
theorem reals_bytes.ev   (a0 : Int) : evAt (env_reals_bytes  ) [] [0] [.v (.one (.d (.int .u64) a0))] [] some = reals_bytes.c   a0 (fun r => some ⟨.v (.agg [(.d (.int .u8) r.1), (.d (.int .u8) r.2.1), (.d (.int .u8) r.2.2.1), (.d (.int .u8) r.2.2.2.1), (.d (.int .u8) r.2.2.2.2.1), (.d (.int .u8) r.2.2.2.2.2.1), (.d (.int .u8) r.2.2.2.2.2.2.1), (.d (.int .u8) r.2.2.2.2.2.2.2)]), []⟩) := by
  kernel_rfl
def reals_bytes.f (k : Nat) (a0 : Int) : Option (Int × Int × Int × Int × Int × Int × Int × Int) := reals_bytes.c   a0 some
theorem reals_bytes.is   : FnIs (env_reals_bytes  ) 45 Go.Proofs.Try.f45 := ⟨Go.Proofs.Try.func45, rfl, rfl, rfl, by decide⟩
theorem reals_bytes.envok    : EnvOK (env_reals_bytes  ).toEnv := by
  intro f c h
  simp only [env_reals_bytes] at h
  simp at h
theorem reals_bytes.ok (k : Nat) : CtOK Go.Proofs.Try.prog 45 (ct_reals_bytes (reals_bytes.f k)) := by
  refine ct_of_ev (E := env_reals_bytes  ) (reals_bytes.is ) (reals_bytes.envok  ) (fun s hs => by simp [env_reals_bytes] at hs) rfl ?_
  intro tvs blks res h
  simp only [ct_reals_bytes] at h
  split at h
  · refine (reals_bytes.ev   _ ).trans ?_
    rw [reals_bytes.c_bind]
    exact h
  · simp at h

/-! ### math_Float64frombits: function 57 (no body) -/
def ct_math_Float64frombits (g : Int → Option Nat) : Ct where
  nin := 0
  mv := []
  F := fun tvs blks {β} K => match tvs, blks with
    | [.v (.one (.d (.int .u64) a0))], [] => (g a0).bind fun r => K ⟨.v (.one (.d .flt r)), []⟩
    | _, _ => none
  legit := fun tvs blks K r h => by
    split at h
    · obtain ⟨x, hx, hk⟩ := Option.bind_eq_some_iff.1 h
      refine ⟨_, ?_, hk⟩
      simp only [hx, Option.bind_some]
    · simp at h
def math_Float64frombits.f (k : Nat) (a0 : Int) : Option Nat := some (a0.toNat)
theorem math_Float64frombits.ok (k : Nat) : CtOK Go.Proofs.Try.prog 57 (ct_math_Float64frombits (math_Float64frombits.f k)) := by
  refine ct_extern ?_
  intro tvs blks res h
  simp only [ct_math_Float64frombits] at h
  split at h
  · simp only [math_Float64frombits.f, Option.bind_some, Option.some.injEq] at h; subst h
    rename_i a0
    refine ⟨.float .f64 a0.toNat, ?_, rfl, rfl⟩
    intro w S ρ H vals hm hv
    obtain ⟨v0, m0, rfl, h0, hv⟩ := All2.cons_left hv
    cases All2.nil_left hv
    simp only [RepTV, RepVV, RepAV, Rd, List.cons.injEq, and_true] at h0
    subst h0
    exact ⟨run_callFunc_extern (e := Extern.MathFloatBits.float64frombits) Go.Proofs.Try.func57 (by kernel_rfl) (by kernel_rfl) (by kernel_rfl) (by kernel_rfl) _ w, rfl⟩
  · simp at h

/-! ### reals_Canon: function 46 -/
def ct_reals_Canon (g : Int → Option Int) : Ct where
  nin := 0
  mv := []
  F := fun tvs blks {β} K => match tvs, blks with
    | [.v (.one (.d (.int .u64) a0))], [] => (g a0).bind fun r => K ⟨.v (.one (.d (.int .u64) r)), []⟩
    | _, _ => none
  legit := fun tvs blks K r h => by
    split at h
    · obtain ⟨x, hx, hk⟩ := Option.bind_eq_some_iff.1 h
      refine ⟨_, ?_, hk⟩
      simp only [hx, Option.bind_some]
    · simp at h
noncomputable def env_reals_Canon (g57 : Int → Option Nat)  : FEnv := { P := Go.Proofs.Try.prog, ct := fun m => if m = 57 then some (ct_math_Float64frombits g57) else none, N := 10, body := Go.Proofs.Try.f46.body.getD .skip, rvs := [.tmp 2], rts := [23], nin := 0, rmv := [], segs := [] }
def reals_Canon.c {β : Type} (g57 : Int → Option Nat)  (a0 : Int) (ret : Int → Option β) : Option β := ((g57 a0).bind fun r0 => (bif ((Ieee.Format.order (FloatKind.format FloatKind.f64) r0 r0) != (Option.some Ordering.eq)) then (ret ((9221120237041090560 : Int))) else (ret (a0))))
theorem reals_Canon.c_bind {β : Type} (g57 : Int → Option Nat)  (a0 : Int) (ret : Int → Option β) : reals_Canon.c g57  a0 ret = (reals_Canon.c g57  a0 some).bind ret := by
  simp only [reals_Canon.c, bif_bind, sum_bind, Option.bind_assoc, Option.bind_some, Option.bind_none, Option.bind_fun_some]
theorem reals_Canon.ev (g57 : Int → Option Nat)  (a0 : Int) : evAt (env_reals_Canon g57 ) [] [0] [.v (.one (.d (.int .u64) a0))] [] some = reals_Canon.c g57  a0 (fun r => some ⟨.v (.one (.d (.int .u64) r)), []⟩) := by
  kernel_rfl
def reals_Canon.f (k : Nat) (a0 : Int) : Option Int := reals_Canon.c (math_Float64frombits.f k)  a0 some
theorem reals_Canon.is (g57 : Int → Option Nat)  : FnIs (env_reals_Canon g57 ) 46 Go.Proofs.Try.f46 := ⟨Go.Proofs.Try.func46, rfl, rfl, rfl, by decide⟩
theorem reals_Canon.envok (g57 : Int → Option Nat)  (h57 : CtOK Go.Proofs.Try.prog 57 (ct_math_Float64frombits g57)) : EnvOK (env_reals_Canon g57 ).toEnv := by
  intro f c h
  simp only [env_reals_Canon] at h
  split at h
  · rename_i e; subst e; cases h; exact h57
  simp at h
theorem reals_Canon.ok (k : Nat) : CtOK Go.Proofs.Try.prog 46 (ct_reals_Canon (reals_Canon.f k)) := by
  refine ct_of_ev (E := env_reals_Canon (math_Float64frombits.f k) ) (reals_Canon.is _ ) (reals_Canon.envok _  (math_Float64frombits.ok k)) (fun s hs => by simp [env_reals_Canon] at hs) rfl ?_
  intro tvs blks res h
  simp only [ct_reals_Canon] at h
  split at h
  · refine (reals_Canon.ev (math_Float64frombits.f k)  _ ).trans ?_
    rw [reals_Canon.c_bind]
    exact h
  · simp at h

/-! ### reals_Back: function 27 -/
def ct_reals_Back (g : Int → Option (Int × Bool)) : Ct where
  nin := 0
  mv := []
  F := fun tvs blks {β} K => match tvs, blks with
    | [.v (.one (.d (.int .u64) a0))], [] => (g a0).bind fun r => K ⟨.tup [(.one (.d (.int .u64) r.1)), (.one (.d .bool r.2))], []⟩
    | _, _ => none
  legit := fun tvs blks K r h => by
    split at h
    · obtain ⟨x, hx, hk⟩ := Option.bind_eq_some_iff.1 h
      refine ⟨_, ?_, hk⟩
      simp only [hx, Option.bind_some]
    · simp at h
noncomputable def env_reals_Back (g45 : Int → Option (Int × Int × Int × Int × Int × Int × Int × Int)) (g46 : Int → Option Int)  : FEnv := { P := Go.Proofs.Try.prog, ct := fun m => if m = 45 then some (ct_reals_bytes g45) else if m = 46 then some (ct_reals_Canon g46) else none, N := 19, body := Go.Proofs.Try.f27.body.getD .skip, rvs := [.tmp 2, .tmp 3], rts := [23, 4], nin := 0, rmv := [], segs := [] }
def reals_Back.c {β : Type} (g45 : Int → Option (Int × Int × Int × Int × Int × Int × Int × Int)) (g46 : Int → Option Int)  (a0 : Int) (ret : (Int × Bool) → Option β) : Option β := (bif ((IntKind.wrap IntKind.u64 ((BitVec.toNat ((BitVec.ofInt (64 : Nat) a0) &&& (BitVec.ofInt (64 : Nat) (9223372036854775808 : Int)))) : Int)) == (0 : Int)) then ((g46 (IntKind.wrap IntKind.u64 ((BitVec.toNat ((BitVec.ofInt (64 : Nat) (18446744073709551615 : Int)) ^^^ (BitVec.ofInt (64 : Nat) a0))) : Int))).bind fun r0 => ((g45 r0).bind fun r1 => ((g45 (IntKind.wrap IntKind.u64 ((BitVec.toNat ((BitVec.ofInt (64 : Nat) (18446744073709551615 : Int)) ^^^ (BitVec.ofInt (64 : Nat) a0))) : Int))).bind fun r2 => (bif (!((r1.1 == r2.1) && ((r1.2.1 == r2.2.1) && ((r1.2.2.1 == r2.2.2.1) && ((r1.2.2.2.1 == r2.2.2.2.1) && ((r1.2.2.2.2.1 == r2.2.2.2.2.1) && ((r1.2.2.2.2.2.1 == r2.2.2.2.2.2.1) && ((r1.2.2.2.2.2.2.1 == r2.2.2.2.2.2.2.1) && ((r1.2.2.2.2.2.2.2 == r2.2.2.2.2.2.2.2) && true))))))))) then (ret ((0 : Int), false)) else (ret ((IntKind.wrap IntKind.u64 ((BitVec.toNat ((BitVec.ofInt (64 : Nat) (18446744073709551615 : Int)) ^^^ (BitVec.ofInt (64 : Nat) a0))) : Int)), true)))))) else ((g46 (IntKind.wrap IntKind.u64 ((BitVec.toNat ((BitVec.ofInt (64 : Nat) a0) &&& (Complement.complement (BitVec.ofInt (64 : Nat) (9223372036854775808 : Int))))) : Int))).bind fun r3 => ((g45 r3).bind fun r4 => ((g45 (IntKind.wrap IntKind.u64 ((BitVec.toNat ((BitVec.ofInt (64 : Nat) a0) &&& (Complement.complement (BitVec.ofInt (64 : Nat) (9223372036854775808 : Int))))) : Int))).bind fun r5 => (bif (!((r4.1 == r5.1) && ((r4.2.1 == r5.2.1) && ((r4.2.2.1 == r5.2.2.1) && ((r4.2.2.2.1 == r5.2.2.2.1) && ((r4.2.2.2.2.1 == r5.2.2.2.2.1) && ((r4.2.2.2.2.2.1 == r5.2.2.2.2.2.1) && ((r4.2.2.2.2.2.2.1 == r5.2.2.2.2.2.2.1) && ((r4.2.2.2.2.2.2.2 == r5.2.2.2.2.2.2.2) && true))))))))) then (ret ((0 : Int), false)) else (ret ((IntKind.wrap IntKind.u64 ((BitVec.toNat ((BitVec.ofInt (64 : Nat) a0) &&& (Complement.complement (BitVec.ofInt (64 : Nat) (9223372036854775808 : Int))))) : Int)), true)))))))
theorem reals_Back.c_bind {β : Type} (g45 : Int → Option (Int × Int × Int × Int × Int × Int × Int × Int)) (g46 : Int → Option Int)  (a0 : Int) (ret : (Int × Bool) → Option β) : reals_Back.c g45 g46  a0 ret = (reals_Back.c g45 g46  a0 some).bind ret := by
  simp only [reals_Back.c, bif_bind, sum_bind, Option.bind_assoc, Option.bind_some, Option.bind_none, Option.bind_fun_some]
theorem reals_Back.ev (g45 : Int → Option (Int × Int × Int × Int × Int × Int × Int × Int)) (g46 : Int → Option Int)  (a0 : Int) : evAt (env_reals_Back g45 g46 ) [] [0] [.v (.one (.d (.int .u64) a0))] [] some = reals_Back.c g45 g46  a0 (fun r => some ⟨.tup [(.one (.d (.int .u64) r.1)), (.one (.d .bool r.2))], []⟩) := by
  kernel_rfl
def reals_Back.f (k : Nat) (a0 : Int) : Option (Int × Bool) := reals_Back.c (reals_bytes.f k) (reals_Canon.f k)  a0 some
theorem reals_Back.is (g45 : Int → Option (Int × Int × Int × Int × Int × Int × Int × Int)) (g46 : Int → Option Int)  : FnIs (env_reals_Back g45 g46 ) 27 Go.Proofs.Try.f27 := ⟨Go.Proofs.Try.func27, rfl, rfl, rfl, by decide⟩
theorem reals_Back.envok (g45 : Int → Option (Int × Int × Int × Int × Int × Int × Int × Int)) (g46 : Int → Option Int)  (h45 : CtOK Go.Proofs.Try.prog 45 (ct_reals_bytes g45)) (h46 : CtOK Go.Proofs.Try.prog 46 (ct_reals_Canon g46)) : EnvOK (env_reals_Back g45 g46 ).toEnv := by
  intro f c h
  simp only [env_reals_Back] at h
  split at h
  · rename_i e; subst e; cases h; exact h45
  split at h
  · rename_i e; subst e; cases h; exact h46
  simp at h
theorem reals_Back.ok (k : Nat) : CtOK Go.Proofs.Try.prog 27 (ct_reals_Back (reals_Back.f k)) := by
  refine ct_of_ev (E := env_reals_Back (reals_bytes.f k) (reals_Canon.f k) ) (reals_Back.is _ _ ) (reals_Back.envok _ _  (reals_bytes.ok k) (reals_Canon.ok k)) (fun s hs => by simp [env_reals_Back] at hs) rfl ?_
  intro tvs blks res h
  simp only [ct_reals_Back] at h
  split at h
  · refine (reals_Back.ev (reals_bytes.f k) (reals_Canon.f k)  _ ).trans ?_
    rw [reals_Back.c_bind]
    exact h
  · simp at h

/-! ### keycode_plain: function 28 -/
def ct_keycode_plain (g : ByteArray → Option (ByteArray × ByteArray × Int)) : Ct where
  nin := 0
  mv := []
  F := fun tvs blks {β} K => match tvs, blks with
    | [.v (.one (.d .str a0))], [] => (g a0).bind fun r => K ⟨.tup [(.one (.d .str r.1)), (.one (.d .str r.2.1)), (.one (.d (.int .i64) r.2.2))], []⟩
    | _, _ => none
  legit := fun tvs blks K r h => by
    split at h
    · obtain ⟨x, hx, hk⟩ := Option.bind_eq_some_iff.1 h
      refine ⟨_, ?_, hk⟩
      simp only [hx, Option.bind_some]
    · simp at h
def seg_keycode_plain_0 (g : ByteArray → Int → (List Int) → Option (ByteArray × ByteArray × Int)) : Seg where
  path := [4, 1, 0, 1, 1]
  prep := [.own 5 (.int .u8)]
  keep := [0, 5, 6]
  F := fun tvs blks {β} K => match tvs, blks with
    | [.v (.one (.d .str x0)), .v (.one (.own 0)), .v (.one (.d (.int .i64) x1))], [some (.own (.int .u8) false x2)] => (g x0 x1 x2).bind fun r => K ⟨.tup [(.one (.d .str r.1)), (.one (.d .str r.2.1)), (.one (.d (.int .i64) r.2.2))], []⟩
    | _, _ => none
  legit := fun tvs blks K r h => by
    split at h
    · obtain ⟨x, hx, hk⟩ := Option.bind_eq_some_iff.1 h
      refine ⟨_, ?_, hk⟩
      simp only [hx, Option.bind_some]
    · simp at h
def seg_keycode_plain_1 (g : ByteArray → Int → (List Int) → Option (ByteArray × ByteArray × Int)) : Seg where
  path := [1, 1, 5, 4, 1, 0, 1, 1]
  prep := []
  keep := [0, 5, 6]
  F := fun tvs blks {β} K => match tvs, blks with
    | [.v (.one (.d .str x0)), .v (.one (.own 0)), .v (.one (.d (.int .i64) x1))], [some (.own (.int .u8) false x2)] => (g x0 x1 x2).bind fun r => K ⟨.tup [(.one (.d .str r.1)), (.one (.d .str r.2.1)), (.one (.d (.int .i64) r.2.2))], []⟩
    | _, _ => none
  legit := fun tvs blks K r h => by
    split at h
    · obtain ⟨x, hx, hk⟩ := Option.bind_eq_some_iff.1 h
      refine ⟨_, ?_, hk⟩
      simp only [hx, Option.bind_some]
    · simp at h
noncomputable def env_keycode_plain  (s0 : ByteArray → Int → (List Int) → Option (ByteArray × ByteArray × Int)) (s1 : ByteArray → Int → (List Int) → Option (ByteArray × ByteArray × Int)) : FEnv := { P := Go.Proofs.Try.prog, ct := fun m => none, N := 53, body := Go.Proofs.Try.f28.body.getD .skip, rvs := [.tmp 2, .tmp 3, .tmp 4], rts := [9, 9, 26], nin := 0, rmv := [], segs := [seg_keycode_plain_0 s0, seg_keycode_plain_1 s1] }
def keycode_plain.c {β : Type}  (s0 : ByteArray → Int → (List Int) → Option (ByteArray × ByteArray × Int)) (s1 : ByteArray → Int → (List Int) → Option (ByteArray × ByteArray × Int)) (a0 : ByteArray) (ret : (ByteArray × ByteArray × Int) → Option β) : Option β := ((s0 a0 (0 : Int) []).bind ret)
def keycode_plain.s0c {β : Type}  (s0 : ByteArray → Int → (List Int) → Option (ByteArray × ByteArray × Int)) (s1 : ByteArray → Int → (List Int) → Option (ByteArray × ByteArray × Int)) (x0 : ByteArray) (x1 : Int) (x2 : List Int) (ret : (ByteArray × ByteArray × Int) → Option β) : Option β := (bif (decide (x1 < ((ByteArray.size x0) : Int))) then (bif ((decide ((0 : Int) ≤ x1)) && (decide (x1 < ((ByteArray.size x0) : Int)))) then (bif ((bt x0 x1) != (0 : Int)) then (bif ((decide ((0 : Int) ≤ x1)) && (decide (x1 < ((ByteArray.size x0) : Int)))) then (bif (decide ((((List.length x2) + (1 : Nat)) * (1 : Nat)) ≤ (35184372088832 : Nat))) then ((s1 x0 x1 (x2 ++ [(bt x0 x1)])).bind ret) else none) else none) else (bif ((IntKind.wrap IntKind.i64 (x1 + (1 : Int))) == ((ByteArray.size x0) : Int)) then (ret ((ByteArray.mk (List.toArray [])), (ByteArray.mk (List.toArray [])), (3 : Int))) else (bif ((decide ((0 : Int) ≤ (IntKind.wrap IntKind.i64 (x1 + (1 : Int))))) && (decide ((IntKind.wrap IntKind.i64 (x1 + (1 : Int))) < ((ByteArray.size x0) : Int)))) then (bif ((bt x0 (IntKind.wrap IntKind.i64 (x1 + (1 : Int)))) == (0 : Int)) then (bif (((decide ((0 : Int) ≤ (IntKind.wrap IntKind.i64 (x1 + (2 : Int))))) && (decide ((IntKind.wrap IntKind.i64 (x1 + (2 : Int))) ≤ ((ByteArray.size x0) : Int)))) && (decide (((ByteArray.size x0) : Int) ≤ ((ByteArray.size x0) : Int)))) then (ret ((ByteArray.mk (List.toArray (List.map (fun n => (UInt8.ofNat (Int.toNat n))) x2))), (ByteArray.extract x0 (Int.toNat (IntKind.wrap IntKind.i64 (x1 + (2 : Int)))) (Int.toNat ((ByteArray.size x0) : Int))), (0 : Int))) else none) else (bif ((decide ((0 : Int) ≤ (IntKind.wrap IntKind.i64 (x1 + (1 : Int))))) && (decide ((IntKind.wrap IntKind.i64 (x1 + (1 : Int))) < ((ByteArray.size x0) : Int)))) then (bif ((bt x0 (IntKind.wrap IntKind.i64 (x1 + (1 : Int)))) != (255 : Int)) then (ret ((ByteArray.mk (List.toArray [])), (ByteArray.mk (List.toArray [])), (4 : Int))) else (bif (decide ((((List.length x2) + (1 : Nat)) * (1 : Nat)) ≤ (35184372088832 : Nat))) then ((s1 x0 (IntKind.wrap IntKind.i64 (x1 + (1 : Int))) (x2 ++ [(0 : Int)])).bind ret) else none)) else none)) else none))) else none) else (ret ((ByteArray.mk (List.toArray [])), (ByteArray.mk (List.toArray [])), (3 : Int))))
def keycode_plain.s1c {β : Type}  (s0 : ByteArray → Int → (List Int) → Option (ByteArray × ByteArray × Int)) (s1 : ByteArray → Int → (List Int) → Option (ByteArray × ByteArray × Int)) (x0 : ByteArray) (x1 : Int) (x2 : List Int) (ret : (ByteArray × ByteArray × Int) → Option β) : Option β := ((s0 x0 (IntKind.wrap IntKind.i64 (x1 + (1 : Int))) x2).bind ret)
theorem keycode_plain.c_bind {β : Type}  (s0 : ByteArray → Int → (List Int) → Option (ByteArray × ByteArray × Int)) (s1 : ByteArray → Int → (List Int) → Option (ByteArray × ByteArray × Int)) (a0 : ByteArray) (ret : (ByteArray × ByteArray × Int) → Option β) : keycode_plain.c  s0 s1 a0 ret = (keycode_plain.c  s0 s1 a0 some).bind ret := by
  simp only [keycode_plain.c, bif_bind, sum_bind, Option.bind_assoc, Option.bind_some, Option.bind_none, Option.bind_fun_some]
theorem keycode_plain.s0c_bind {β : Type}  (s0 : ByteArray → Int → (List Int) → Option (ByteArray × ByteArray × Int)) (s1 : ByteArray → Int → (List Int) → Option (ByteArray × ByteArray × Int)) (x0 : ByteArray) (x1 : Int) (x2 : List Int) (ret : (ByteArray × ByteArray × Int) → Option β) : keycode_plain.s0c  s0 s1 x0 x1 x2 ret = (keycode_plain.s0c  s0 s1 x0 x1 x2 some).bind ret := by
  simp only [keycode_plain.s0c, bif_bind, sum_bind, Option.bind_assoc, Option.bind_some, Option.bind_none, Option.bind_fun_some]
theorem keycode_plain.s1c_bind {β : Type}  (s0 : ByteArray → Int → (List Int) → Option (ByteArray × ByteArray × Int)) (s1 : ByteArray → Int → (List Int) → Option (ByteArray × ByteArray × Int)) (x0 : ByteArray) (x1 : Int) (x2 : List Int) (ret : (ByteArray × ByteArray × Int) → Option β) : keycode_plain.s1c  s0 s1 x0 x1 x2 ret = (keycode_plain.s1c  s0 s1 x0 x1 x2 some).bind ret := by
  simp only [keycode_plain.s1c, bif_bind, sum_bind, Option.bind_assoc, Option.bind_some, Option.bind_none, Option.bind_fun_some]
theorem keycode_plain.ev  (s0 : ByteArray → Int → (List Int) → Option (ByteArray × ByteArray × Int)) (s1 : ByteArray → Int → (List Int) → Option (ByteArray × ByteArray × Int)) (a0 : ByteArray) : evAt (env_keycode_plain  s0 s1) [] [0] [.v (.one (.d .str a0))] [] some = keycode_plain.c  s0 s1 a0 (fun r => some ⟨.tup [(.one (.d .str r.1)), (.one (.d .str r.2.1)), (.one (.d (.int .i64) r.2.2))], []⟩) := by
  kernel_rfl
theorem keycode_plain.s0_ev  (s0 : ByteArray → Int → (List Int) → Option (ByteArray × ByteArray × Int)) (s1 : ByteArray → Int → (List Int) → Option (ByteArray × ByteArray × Int)) (x0 : ByteArray) (x1 : Int) (x2 : List Int) : evAt (env_keycode_plain  s0 s1) [4, 1, 0, 1, 1] [0, 5, 6] [.v (.one (.d .str x0)), .v (.one (.own 0)), .v (.one (.d (.int .i64) x1))] [some (.own (.int .u8) false x2)] some = keycode_plain.s0c  s0 s1 x0 x1 x2 (fun r => some ⟨.tup [(.one (.d .str r.1)), (.one (.d .str r.2.1)), (.one (.d (.int .i64) r.2.2))], []⟩) := by
  kernel_rfl
theorem keycode_plain.s1_ev  (s0 : ByteArray → Int → (List Int) → Option (ByteArray × ByteArray × Int)) (s1 : ByteArray → Int → (List Int) → Option (ByteArray × ByteArray × Int)) (x0 : ByteArray) (x1 : Int) (x2 : List Int) : evAt (env_keycode_plain  s0 s1) [1, 1, 5, 4, 1, 0, 1, 1] [0, 5, 6] [.v (.one (.d .str x0)), .v (.one (.own 0)), .v (.one (.d (.int .i64) x1))] [some (.own (.int .u8) false x2)] some = keycode_plain.s1c  s0 s1 x0 x1 x2 (fun r => some ⟨.tup [(.one (.d .str r.1)), (.one (.d .str r.2.1)), (.one (.d (.int .i64) r.2.2))], []⟩) := by
  kernel_rfl
mutual
def keycode_plain.s0 : Nat → ByteArray → Int → (List Int) → Option (ByteArray × ByteArray × Int)
  | 0, _, _, _ => none
  | k + 1, x0, x1, x2 => keycode_plain.s0c  (keycode_plain.s0 k) (keycode_plain.s1 k) x0 x1 x2 some
def keycode_plain.s1 : Nat → ByteArray → Int → (List Int) → Option (ByteArray × ByteArray × Int)
  | 0, _, _, _ => none
  | k + 1, x0, x1, x2 => keycode_plain.s1c  (keycode_plain.s0 k) (keycode_plain.s1 k) x0 x1 x2 some
end
def keycode_plain.f (k : Nat) (a0 : ByteArray) : Option (ByteArray × ByteArray × Int) := keycode_plain.c  (keycode_plain.s0 k) (keycode_plain.s1 k) a0 some
theorem keycode_plain.is  (s0 : ByteArray → Int → (List Int) → Option (ByteArray × ByteArray × Int)) (s1 : ByteArray → Int → (List Int) → Option (ByteArray × ByteArray × Int)) : FnIs (env_keycode_plain  s0 s1) 28 Go.Proofs.Try.f28 := ⟨Go.Proofs.Try.func28, rfl, rfl, rfl, by decide⟩
theorem keycode_plain.envok  (s0 : ByteArray → Int → (List Int) → Option (ByteArray × ByteArray × Int)) (s1 : ByteArray → Int → (List Int) → Option (ByteArray × ByteArray × Int))  : EnvOK (env_keycode_plain  s0 s1).toEnv := by
  intro f c h
  simp only [env_keycode_plain] at h
  simp at h
theorem keycode_plain.segs_ok : ∀ k, ∀ s ∈ (env_keycode_plain  (keycode_plain.s0 k) (keycode_plain.s1 k)).segs, SegOK (env_keycode_plain  (keycode_plain.s0 k) (keycode_plain.s1 k)) Go.Proofs.Try.f28 s
  | 0 => by
    intro s hs
    simp only [env_keycode_plain, List.mem_cons, List.not_mem_nil, or_false] at hs
    rcases hs with rfl | rfl
    · intro tvs blks res h; exfalso; simp only [seg_keycode_plain_0] at h; split at h <;> simp [keycode_plain.s0] at h
    · intro tvs blks res h; exfalso; simp only [seg_keycode_plain_1] at h; split at h <;> simp [keycode_plain.s1] at h
  | k + 1 => by
    have ih := keycode_plain.segs_ok k
    intro s hs
    simp only [env_keycode_plain, List.mem_cons, List.not_mem_nil, or_false] at hs
    rcases hs with rfl | rfl
    · refine seg_of_ev (E := env_keycode_plain  (keycode_plain.s0 k) (keycode_plain.s1 k)) (keycode_plain.envok _ _  ) ⟨(keycode_plain.is  (keycode_plain.s0 k) (keycode_plain.s1 k)).rvs⟩ ih ?_
      intro tvs blks res h
      simp only [seg_keycode_plain_0] at h
      split at h
      · refine (keycode_plain.s0_ev  (keycode_plain.s0 k) (keycode_plain.s1 k) _ _ _ ).trans ?_
        rw [keycode_plain.s0c_bind]
        exact h
      · simp at h
    · refine seg_of_ev (E := env_keycode_plain  (keycode_plain.s0 k) (keycode_plain.s1 k)) (keycode_plain.envok _ _  ) ⟨(keycode_plain.is  (keycode_plain.s0 k) (keycode_plain.s1 k)).rvs⟩ ih ?_
      intro tvs blks res h
      simp only [seg_keycode_plain_1] at h
      split at h
      · refine (keycode_plain.s1_ev  (keycode_plain.s0 k) (keycode_plain.s1 k) _ _ _ ).trans ?_
        rw [keycode_plain.s1c_bind]
        exact h
      · simp at h
theorem keycode_plain.ok (k : Nat) : CtOK Go.Proofs.Try.prog 28 (ct_keycode_plain (keycode_plain.f k)) := by
  refine ct_of_ev (E := env_keycode_plain  (keycode_plain.s0 k) (keycode_plain.s1 k)) (keycode_plain.is _ _ ) (keycode_plain.envok _ _  ) (keycode_plain.segs_ok k) rfl ?_
  intro tvs blks res h
  simp only [ct_keycode_plain] at h
  split at h
  · refine (keycode_plain.ev  (keycode_plain.s0 k) (keycode_plain.s1 k) _ ).trans ?_
    rw [keycode_plain.c_bind]
    exact h
  · simp at h

/-! ### values_only: function 47 -/
def ct_values_only (g : Int → Int → Int → ByteArray → Option (Int × Int × Int × ByteArray)) : Ct where
  nin := 0
  mv := []
  F := fun tvs blks {β} K => match tvs, blks with
    | [.v (.agg [(.d (.int .i64) a0), (.d (.int .i64) a1), (.d (.int .u64) a2), (.d .str a3)])], [] => (g a0 a1 a2 a3).bind fun r => K ⟨.v (.agg [(.d (.int .i64) r.1), (.d (.int .i64) r.2.1), (.d (.int .u64) r.2.2.1), (.d .str r.2.2.2)]), []⟩
    | _, _ => none
  legit := fun tvs blks K r h => by
    split at h
    · obtain ⟨x, hx, hk⟩ := Option.bind_eq_some_iff.1 h
      refine ⟨_, ?_, hk⟩
      simp only [hx, Option.bind_some]
    · simp at h
def seg_values_only_0 (g : Int → Bool → Int → Int → Int → ByteArray → Int → Int → Int → ByteArray → Int → Int → Int → ByteArray → Option (Int × Int × Int × ByteArray)) : Seg where
  path := [1, 4, 1, 0, 1, 1]
  prep := []
  keep := [1, 2, 3, 8, 9]
  F := fun tvs blks {β} K => match tvs, blks with
    | [.v (.one (.ptr 0 0)), .v (.one (.ptr 1 0)), .v (.one (.ptr 2 0)), .v (.one (.d (.int .i64) x0)), .v (.one (.d .bool x1))], [some (.box [(.d (.int .i64) x2), (.d (.int .i64) x3), (.d (.int .u64) x4), (.d .str x5)]), some (.box [(.d (.int .i64) x6), (.d (.int .i64) x7), (.d (.int .u64) x8), (.d .str x9)]), some (.box [(.d (.int .i64) x10), (.d (.int .i64) x11), (.d (.int .u64) x12), (.d .str x13)])] => (g x0 x1 x2 x3 x4 x5 x6 x7 x8 x9 x10 x11 x12 x13).bind fun r => K ⟨.v (.agg [(.d (.int .i64) r.1), (.d (.int .i64) r.2.1), (.d (.int .u64) r.2.2.1), (.d .str r.2.2.2)]), []⟩
    | _, _ => none
  legit := fun tvs blks K r h => by
    split at h
    · obtain ⟨x, hx, hk⟩ := Option.bind_eq_some_iff.1 h
      refine ⟨_, ?_, hk⟩
      simp only [hx, Option.bind_some]
    · simp at h
noncomputable def env_values_only  (s0 : Int → Bool → Int → Int → Int → ByteArray → Int → Int → Int → ByteArray → Int → Int → Int → ByteArray → Option (Int × Int × Int × ByteArray)) : FEnv := { P := Go.Proofs.Try.prog, ct := fun m => none, N := 27, body := Go.Proofs.Try.f47.body.getD .skip, rvs := [.cell 2 25], rts := [25], nin := 0, rmv := [], segs := [seg_values_only_0 s0] }
def values_only.c {β : Type}  (s0 : Int → Bool → Int → Int → Int → ByteArray → Int → Int → Int → ByteArray → Int → Int → Int → ByteArray → Option (Int × Int × Int × ByteArray)) (a0 : Int) (a1 : Int) (a2 : Int) (a3 : ByteArray) (ret : (Int × Int × Int × ByteArray) → Option β) : Option β := (bif (a0 == (1 : Int)) then ((s0 a0 (a0 == (1 : Int)) a0 a1 a2 a3 (0 : Int) (0 : Int) (0 : Int) (ByteArray.mk (List.toArray [])) a0 (0 : Int) (0 : Int) (ByteArray.mk (List.toArray []))).bind ret) else ((s0 a0 (a0 == (2 : Int)) a0 a1 a2 a3 (0 : Int) (0 : Int) (0 : Int) (ByteArray.mk (List.toArray [])) a0 (0 : Int) (0 : Int) (ByteArray.mk (List.toArray []))).bind ret))
def values_only.s0c {β : Type}  (s0 : Int → Bool → Int → Int → Int → ByteArray → Int → Int → Int → ByteArray → Int → Int → Int → ByteArray → Option (Int × Int × Int × ByteArray)) (x0 : Int) (x1 : Bool) (x2 : Int) (x3 : Int) (x4 : Int) (x5 : ByteArray) (x6 : Int) (x7 : Int) (x8 : Int) (x9 : ByteArray) (x10 : Int) (x11 : Int) (x12 : Int) (x13 : ByteArray) (ret : (Int × Int × Int × ByteArray) → Option β) : Option β := (bif x1 then (ret (x10, x3, x12, x13)) else (bif (x0 == (3 : Int)) then (ret (x10, x11, x4, x13)) else (bif (x0 == (4 : Int)) then (bif (x0 == (4 : Int)) then (ret (x10, x11, x12, x5)) else (ret (x10, x11, x12, x13))) else (bif (x0 == (5 : Int)) then (ret (x10, x11, x12, x5)) else (ret (x10, x11, x12, x13))))))
theorem values_only.c_bind {β : Type}  (s0 : Int → Bool → Int → Int → Int → ByteArray → Int → Int → Int → ByteArray → Int → Int → Int → ByteArray → Option (Int × Int × Int × ByteArray)) (a0 : Int) (a1 : Int) (a2 : Int) (a3 : ByteArray) (ret : (Int × Int × Int × ByteArray) → Option β) : values_only.c  s0 a0 a1 a2 a3 ret = (values_only.c  s0 a0 a1 a2 a3 some).bind ret := by
  simp only [values_only.c, bif_bind, sum_bind, Option.bind_assoc, Option.bind_some, Option.bind_none, Option.bind_fun_some]
theorem values_only.s0c_bind {β : Type}  (s0 : Int → Bool → Int → Int → Int → ByteArray → Int → Int → Int → ByteArray → Int → Int → Int → ByteArray → Option (Int × Int × Int × ByteArray)) (x0 : Int) (x1 : Bool) (x2 : Int) (x3 : Int) (x4 : Int) (x5 : ByteArray) (x6 : Int) (x7 : Int) (x8 : Int) (x9 : ByteArray) (x10 : Int) (x11 : Int) (x12 : Int) (x13 : ByteArray) (ret : (Int × Int × Int × ByteArray) → Option β) : values_only.s0c  s0 x0 x1 x2 x3 x4 x5 x6 x7 x8 x9 x10 x11 x12 x13 ret = (values_only.s0c  s0 x0 x1 x2 x3 x4 x5 x6 x7 x8 x9 x10 x11 x12 x13 some).bind ret := by
  simp only [values_only.s0c, bif_bind, sum_bind, Option.bind_assoc, Option.bind_some, Option.bind_none, Option.bind_fun_some]
theorem values_only.ev  (s0 : Int → Bool → Int → Int → Int → ByteArray → Int → Int → Int → ByteArray → Int → Int → Int → ByteArray → Option (Int × Int × Int × ByteArray)) (a0 : Int) (a1 : Int) (a2 : Int) (a3 : ByteArray) : evAt (env_values_only  s0) [] [0] [.v (.agg [(.d (.int .i64) a0), (.d (.int .i64) a1), (.d (.int .u64) a2), (.d .str a3)])] [] some = values_only.c  s0 a0 a1 a2 a3 (fun r => some ⟨.v (.agg [(.d (.int .i64) r.1), (.d (.int .i64) r.2.1), (.d (.int .u64) r.2.2.1), (.d .str r.2.2.2)]), []⟩) := by
  kernel_rfl
theorem values_only.s0_ev  (s0 : Int → Bool → Int → Int → Int → ByteArray → Int → Int → Int → ByteArray → Int → Int → Int → ByteArray → Option (Int × Int × Int × ByteArray)) (x0 : Int) (x1 : Bool) (x2 : Int) (x3 : Int) (x4 : Int) (x5 : ByteArray) (x6 : Int) (x7 : Int) (x8 : Int) (x9 : ByteArray) (x10 : Int) (x11 : Int) (x12 : Int) (x13 : ByteArray) : evAt (env_values_only  s0) [1, 4, 1, 0, 1, 1] [1, 2, 3, 8, 9] [.v (.one (.ptr 0 0)), .v (.one (.ptr 1 0)), .v (.one (.ptr 2 0)), .v (.one (.d (.int .i64) x0)), .v (.one (.d .bool x1))] [some (.box [(.d (.int .i64) x2), (.d (.int .i64) x3), (.d (.int .u64) x4), (.d .str x5)]), some (.box [(.d (.int .i64) x6), (.d (.int .i64) x7), (.d (.int .u64) x8), (.d .str x9)]), some (.box [(.d (.int .i64) x10), (.d (.int .i64) x11), (.d (.int .u64) x12), (.d .str x13)])] some = values_only.s0c  s0 x0 x1 x2 x3 x4 x5 x6 x7 x8 x9 x10 x11 x12 x13 (fun r => some ⟨.v (.agg [(.d (.int .i64) r.1), (.d (.int .i64) r.2.1), (.d (.int .u64) r.2.2.1), (.d .str r.2.2.2)]), []⟩) := by
  kernel_rfl
def values_only.s0 : Nat → Int → Bool → Int → Int → Int → ByteArray → Int → Int → Int → ByteArray → Int → Int → Int → ByteArray → Option (Int × Int × Int × ByteArray)
  | 0, _, _, _, _, _, _, _, _, _, _, _, _, _, _ => none
  | k + 1, x0, x1, x2, x3, x4, x5, x6, x7, x8, x9, x10, x11, x12, x13 => values_only.s0c  (values_only.s0 k) x0 x1 x2 x3 x4 x5 x6 x7 x8 x9 x10 x11 x12 x13 some
def values_only.f (k : Nat) (a0 : Int) (a1 : Int) (a2 : Int) (a3 : ByteArray) : Option (Int × Int × Int × ByteArray) := values_only.c  (values_only.s0 k) a0 a1 a2 a3 some
theorem values_only.is  (s0 : Int → Bool → Int → Int → Int → ByteArray → Int → Int → Int → ByteArray → Int → Int → Int → ByteArray → Option (Int × Int × Int × ByteArray)) : FnIs (env_values_only  s0) 47 Go.Proofs.Try.f47 := ⟨Go.Proofs.Try.func47, rfl, rfl, rfl, by decide⟩
theorem values_only.envok  (s0 : Int → Bool → Int → Int → Int → ByteArray → Int → Int → Int → ByteArray → Int → Int → Int → ByteArray → Option (Int × Int × Int × ByteArray))  : EnvOK (env_values_only  s0).toEnv := by
  intro f c h
  simp only [env_values_only] at h
  simp at h
theorem values_only.segs_ok : ∀ k, ∀ s ∈ (env_values_only  (values_only.s0 k)).segs, SegOK (env_values_only  (values_only.s0 k)) Go.Proofs.Try.f47 s
  | 0 => by
    intro s hs
    simp only [env_values_only, List.mem_cons, List.not_mem_nil, or_false] at hs
    rcases hs with rfl
    · intro tvs blks res h; exfalso; simp only [seg_values_only_0] at h; split at h <;> simp [values_only.s0] at h
  | k + 1 => by
    have ih := values_only.segs_ok k
    intro s hs
    simp only [env_values_only, List.mem_cons, List.not_mem_nil, or_false] at hs
    rcases hs with rfl
    · refine seg_of_ev (E := env_values_only  (values_only.s0 k)) (values_only.envok _  ) ⟨(values_only.is  (values_only.s0 k)).rvs⟩ ih ?_
      intro tvs blks res h
      simp only [seg_values_only_0] at h
      split at h
      · refine (values_only.s0_ev  (values_only.s0 k) _ _ _ _ _ _ _ _ _ _ _ _ _ _ ).trans ?_
        rw [values_only.s0c_bind]
        exact h
      · simp at h
theorem values_only.ok (k : Nat) : CtOK Go.Proofs.Try.prog 47 (ct_values_only (values_only.f k)) := by
  refine ct_of_ev (E := env_values_only  (values_only.s0 k)) (values_only.is _ ) (values_only.envok _  ) (values_only.segs_ok k) rfl ?_
  intro tvs blks res h
  simp only [ct_values_only] at h
  split at h
  · refine (values_only.ev  (values_only.s0 k) _ _ _ _ ).trans ?_
    rw [values_only.c_bind]
    exact h
  · simp at h

/-! ### utf_first: function 67 -/
def ct_utf_first (g : Int → Option (Int × Int × Int × Int)) : Ct where
  nin := 0
  mv := []
  F := fun tvs blks {β} K => match tvs, blks with
    | [.v (.one (.d (.int .u8) a0))], [] => (g a0).bind fun r => K ⟨.tup [(.one (.d (.int .i64) r.1)), (.one (.d (.int .i64) r.2.1)), (.one (.d (.int .u8) r.2.2.1)), (.one (.d (.int .u8) r.2.2.2))], []⟩
    | _, _ => none
  legit := fun tvs blks K r h => by
    split at h
    · obtain ⟨x, hx, hk⟩ := Option.bind_eq_some_iff.1 h
      refine ⟨_, ?_, hk⟩
      simp only [hx, Option.bind_some]
    · simp at h
def seg_utf_first_0 (g : Int → Bool → Option (Int × Int × Int × Int)) : Seg where
  path := [1, 3, 1, 4, 0, 1]
  prep := []
  keep := [0, 11]
  F := fun tvs blks {β} K => match tvs, blks with
    | [.v (.one (.d (.int .u8) x0)), .v (.one (.d .bool x1))], [] => (g x0 x1).bind fun r => K ⟨.tup [(.one (.d (.int .i64) r.1)), (.one (.d (.int .i64) r.2.1)), (.one (.d (.int .u8) r.2.2.1)), (.one (.d (.int .u8) r.2.2.2))], []⟩
    | _, _ => none
  legit := fun tvs blks K r h => by
    split at h
    · obtain ⟨x, hx, hk⟩ := Option.bind_eq_some_iff.1 h
      refine ⟨_, ?_, hk⟩
      simp only [hx, Option.bind_some]
    · simp at h
noncomputable def env_utf_first  (s0 : Int → Bool → Option (Int × Int × Int × Int)) : FEnv := { P := Go.Proofs.Try.prog, ct := fun m => none, N := 48, body := Go.Proofs.Try.f67.body.getD .skip, rvs := [.tmp 2, .tmp 3, .tmp 4, .tmp 5], rts := [3, 3, 5, 5], nin := 0, rmv := [], segs := [seg_utf_first_0 s0] }
def utf_first.c {β : Type}  (s0 : Int → Bool → Option (Int × Int × Int × Int)) (a0 : Int) (ret : (Int × Int × Int × Int) → Option β) : Option β := (bif (decide (a0 < (128 : Int))) then (ret ((1 : Int), (IntKind.wrap IntKind.i64 a0), (0 : Int), (0 : Int))) else (bif (decide (a0 < (194 : Int))) then ((s0 a0 true).bind ret) else ((s0 a0 (decide (a0 > (244 : Int)))).bind ret)))
def utf_first.s0c {β : Type}  (s0 : Int → Bool → Option (Int × Int × Int × Int)) (x0 : Int) (x1 : Bool) (ret : (Int × Int × Int × Int) → Option β) : Option β := (bif x1 then (ret ((0 : Int), (0 : Int), (0 : Int), (0 : Int))) else (bif (decide (x0 < (224 : Int))) then (ret ((2 : Int), (IntKind.wrap IntKind.i64 (IntKind.wrap IntKind.u8 ((BitVec.toNat ((BitVec.ofInt (8 : Nat) x0) &&& (BitVec.ofInt (8 : Nat) (31 : Int)))) : Int))), (128 : Int), (191 : Int))) else (bif (x0 == (224 : Int)) then (ret ((3 : Int), (0 : Int), (160 : Int), (191 : Int))) else (bif (x0 == (237 : Int)) then (ret ((3 : Int), (IntKind.wrap IntKind.i64 (IntKind.wrap IntKind.u8 ((BitVec.toNat ((BitVec.ofInt (8 : Nat) x0) &&& (BitVec.ofInt (8 : Nat) (15 : Int)))) : Int))), (128 : Int), (159 : Int))) else (bif (decide (x0 < (240 : Int))) then (ret ((3 : Int), (IntKind.wrap IntKind.i64 (IntKind.wrap IntKind.u8 ((BitVec.toNat ((BitVec.ofInt (8 : Nat) x0) &&& (BitVec.ofInt (8 : Nat) (15 : Int)))) : Int))), (128 : Int), (191 : Int))) else (bif (x0 == (240 : Int)) then (ret ((4 : Int), (0 : Int), (144 : Int), (191 : Int))) else (bif (x0 == (244 : Int)) then (ret ((4 : Int), (4 : Int), (128 : Int), (143 : Int))) else (ret ((4 : Int), (IntKind.wrap IntKind.i64 (IntKind.wrap IntKind.u8 ((BitVec.toNat ((BitVec.ofInt (8 : Nat) x0) &&& (BitVec.ofInt (8 : Nat) (7 : Int)))) : Int))), (128 : Int), (191 : Int))))))))))
theorem utf_first.c_bind {β : Type}  (s0 : Int → Bool → Option (Int × Int × Int × Int)) (a0 : Int) (ret : (Int × Int × Int × Int) → Option β) : utf_first.c  s0 a0 ret = (utf_first.c  s0 a0 some).bind ret := by
  simp only [utf_first.c, bif_bind, sum_bind, Option.bind_assoc, Option.bind_some, Option.bind_none, Option.bind_fun_some]
theorem utf_first.s0c_bind {β : Type}  (s0 : Int → Bool → Option (Int × Int × Int × Int)) (x0 : Int) (x1 : Bool) (ret : (Int × Int × Int × Int) → Option β) : utf_first.s0c  s0 x0 x1 ret = (utf_first.s0c  s0 x0 x1 some).bind ret := by
  simp only [utf_first.s0c, bif_bind, sum_bind, Option.bind_assoc, Option.bind_some, Option.bind_none, Option.bind_fun_some]
theorem utf_first.ev  (s0 : Int → Bool → Option (Int × Int × Int × Int)) (a0 : Int) : evAt (env_utf_first  s0) [] [0] [.v (.one (.d (.int .u8) a0))] [] some = utf_first.c  s0 a0 (fun r => some ⟨.tup [(.one (.d (.int .i64) r.1)), (.one (.d (.int .i64) r.2.1)), (.one (.d (.int .u8) r.2.2.1)), (.one (.d (.int .u8) r.2.2.2))], []⟩) := by
  kernel_rfl
theorem utf_first.s0_ev  (s0 : Int → Bool → Option (Int × Int × Int × Int)) (x0 : Int) (x1 : Bool) : evAt (env_utf_first  s0) [1, 3, 1, 4, 0, 1] [0, 11] [.v (.one (.d (.int .u8) x0)), .v (.one (.d .bool x1))] [] some = utf_first.s0c  s0 x0 x1 (fun r => some ⟨.tup [(.one (.d (.int .i64) r.1)), (.one (.d (.int .i64) r.2.1)), (.one (.d (.int .u8) r.2.2.1)), (.one (.d (.int .u8) r.2.2.2))], []⟩) := by
  kernel_rfl
def utf_first.s0 : Nat → Int → Bool → Option (Int × Int × Int × Int)
  | 0, _, _ => none
  | k + 1, x0, x1 => utf_first.s0c  (utf_first.s0 k) x0 x1 some
def utf_first.f (k : Nat) (a0 : Int) : Option (Int × Int × Int × Int) := utf_first.c  (utf_first.s0 k) a0 some
theorem utf_first.is  (s0 : Int → Bool → Option (Int × Int × Int × Int)) : FnIs (env_utf_first  s0) 67 Go.Proofs.Try.f67 := ⟨Go.Proofs.Try.func67, rfl, rfl, rfl, by decide⟩
theorem utf_first.envok  (s0 : Int → Bool → Option (Int × Int × Int × Int))  : EnvOK (env_utf_first  s0).toEnv := by
  intro f c h
  simp only [env_utf_first] at h
  simp at h
theorem utf_first.segs_ok : ∀ k, ∀ s ∈ (env_utf_first  (utf_first.s0 k)).segs, SegOK (env_utf_first  (utf_first.s0 k)) Go.Proofs.Try.f67 s
  | 0 => by
    intro s hs
    simp only [env_utf_first, List.mem_cons, List.not_mem_nil, or_false] at hs
    rcases hs with rfl
    · intro tvs blks res h; exfalso; simp only [seg_utf_first_0] at h; split at h <;> simp [utf_first.s0] at h
  | k + 1 => by
    have ih := utf_first.segs_ok k
    intro s hs
    simp only [env_utf_first, List.mem_cons, List.not_mem_nil, or_false] at hs
    rcases hs with rfl
    · refine seg_of_ev (E := env_utf_first  (utf_first.s0 k)) (utf_first.envok _  ) ⟨(utf_first.is  (utf_first.s0 k)).rvs⟩ ih ?_
      intro tvs blks res h
      simp only [seg_utf_first_0] at h
      split at h
      · refine (utf_first.s0_ev  (utf_first.s0 k) _ _ ).trans ?_
        rw [utf_first.s0c_bind]
        exact h
      · simp at h
theorem utf_first.ok (k : Nat) : CtOK Go.Proofs.Try.prog 67 (ct_utf_first (utf_first.f k)) := by
  refine ct_of_ev (E := env_utf_first  (utf_first.s0 k)) (utf_first.is _ ) (utf_first.envok _  ) (utf_first.segs_ok k) rfl ?_
  intro tvs blks res h
  simp only [ct_utf_first] at h
  split at h
  · refine (utf_first.ev  (utf_first.s0 k) _ ).trans ?_
    rw [utf_first.c_bind]
    exact h
  · simp at h
end Go.Proofs.Ytpcojbnoadnknaa.Aev
