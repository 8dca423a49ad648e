/- By a program of this session (AEV): functions of the program as plain functions, and that the machine does what they say. -/
import Derived.Test.YtndkobhclggeiaaAevW
import Derived.Test.YtndkobhclggeiaaProg
import Derived.Laws.Externs
import Derived.Lib.Bytealg
import Derived.Test.YtndkobhclggeiaaF0
import Derived.Test.YtndkobhclggeiaaF1
import Derived.Test.YtndkobhclggeiaaF2
namespace Go.Proofs.Ytndkobhclggeiaa.Aev
set_option linter.unusedVariables false
set_option linter.unusedSimpArgs false
set_option maxRecDepth 100000
set_option maxHeartbeats 4000000
open Go
/-! ### math_trunc: function 59 -/
def ct_math_trunc (g : Nat → Option Nat) : Ct where
  nin := 0
  mv := []
  F := fun tvs blks {β} K => match tvs, blks with
    | [.v (.one (.d .flt a0))], [] => (g a0).bind fun r => K ⟨.v (.one (.d .flt r)), []⟩
    | _, _ => none
  legit := fun tvs blks K r h => by
    split at h
    · obtain ⟨x, hx, hk⟩ := Option.bind_eq_some_iff.1 h
      refine ⟨_, ?_, hk⟩
      simp only [hx, Option.bind_some]
    · simp at h
noncomputable def env_math_trunc (g50 : Int → Option Nat) (g54 : Nat → Option Int) (g62 : Nat → Option Nat) (g63 : Nat → Nat → Option Nat)  : FEnv := { P := Go.Proofs.Try.prog, ct := fun m => if m = 50 then some (ct_math_Float64frombits g50) else if m = 54 then some (ct_math_Float64bits g54) else if m = 62 then some (ct_math_Abs g62) else if m = 63 then some (ct_math_Copysign g63) else none, N := 26, body := Go.Proofs.Try.f59.body.getD .skip, rvs := [.tmp 2], rts := [70], nin := 0, rmv := [], segs := [] }
def math_trunc.c {β : Type} (g50 : Int → Option Nat) (g54 : Nat → Option Int) (g62 : Nat → Option Nat) (g63 : Nat → Nat → Option Nat)  (a0 : Nat) (ret : Nat → Option β) : Option β := ((g62 a0).bind fun r0 => (bif ((Ieee.Format.order (FloatKind.format FloatKind.f64) r0 (4607182418800017408 : Nat)) == (Option.some Ordering.lt)) then ((g63 (0 : Nat) a0).bind fun r1 => (ret (r1))) else ((g54 a0).bind fun r2 => (bif (decide ((IntKind.wrap IntKind.u64 ((IntKind.wrap IntKind.u64 ((BitVec.toNat ((BitVec.ofInt (64 : Nat) (Int.fdiv r2 (4503599627370496 : Int))) &&& (BitVec.ofInt (64 : Nat) (2047 : Int)))) : Int)) - (1023 : Int))) < (52 : Int))) then (bif (decide ((0 : Int) ≤ (IntKind.wrap IntKind.u64 ((52 : Int) - (IntKind.wrap IntKind.u64 ((IntKind.wrap IntKind.u64 ((BitVec.toNat ((BitVec.ofInt (64 : Nat) (Int.fdiv r2 (4503599627370496 : Int))) &&& (BitVec.ofInt (64 : Nat) (2047 : Int)))) : Int)) - (1023 : Int))))))) then ((g50 (IntKind.wrap IntKind.u64 ((BitVec.toNat ((BitVec.ofInt (64 : Nat) r2) &&& (Complement.complement (BitVec.ofInt (64 : Nat) (IntKind.wrap IntKind.u64 ((IntKind.wrap IntKind.u64 ((1 : Int) * ((2 : Int) ^ (Min.min (Int.toNat (IntKind.wrap IntKind.u64 ((52 : Int) - (IntKind.wrap IntKind.u64 ((IntKind.wrap IntKind.u64 ((BitVec.toNat ((BitVec.ofInt (64 : Nat) (Int.fdiv r2 (4503599627370496 : Int))) &&& (BitVec.ofInt (64 : Nat) (2047 : Int)))) : Int)) - (1023 : Int)))))) (64 : Nat))))) - (1 : Int))))))) : Int))).bind fun r3 => (ret (r3))) else none) else ((g50 r2).bind fun r4 => (ret (r4)))))))
theorem math_trunc.c_bind {β : Type} (g50 : Int → Option Nat) (g54 : Nat → Option Int) (g62 : Nat → Option Nat) (g63 : Nat → Nat → Option Nat)  (a0 : Nat) (ret : Nat → Option β) : math_trunc.c g50 g54 g62 g63  a0 ret = (math_trunc.c g50 g54 g62 g63  a0 some).bind ret := by
  simp only [math_trunc.c, bif_bind, sum_bind, Option.bind_assoc, Option.bind_some, Option.bind_none, Option.bind_fun_some]
theorem math_trunc.ev (g50 : Int → Option Nat) (g54 : Nat → Option Int) (g62 : Nat → Option Nat) (g63 : Nat → Nat → Option Nat)  (a0 : Nat) : evAt (env_math_trunc g50 g54 g62 g63 ) [] [0] [.v (.one (.d .flt a0))] [] some = math_trunc.c g50 g54 g62 g63  a0 (fun r => some ⟨.v (.one (.d .flt r)), []⟩) := by
  kernel_rfl
def math_trunc.f (k : Nat) (a0 : Nat) : Option Nat := math_trunc.c (math_Float64frombits.f k) (math_Float64bits.f k) (math_Abs.f k) (math_Copysign.f k)  a0 some
theorem math_trunc.is (g50 : Int → Option Nat) (g54 : Nat → Option Int) (g62 : Nat → Option Nat) (g63 : Nat → Nat → Option Nat)  : FnIs (env_math_trunc g50 g54 g62 g63 ) 59 Go.Proofs.Try.f59 := ⟨Go.Proofs.Try.func59, rfl, rfl, rfl, by decide⟩
theorem math_trunc.envok (g50 : Int → Option Nat) (g54 : Nat → Option Int) (g62 : Nat → Option Nat) (g63 : Nat → Nat → Option Nat)  (h50 : CtOK Go.Proofs.Try.prog 50 (ct_math_Float64frombits g50)) (h54 : CtOK Go.Proofs.Try.prog 54 (ct_math_Float64bits g54)) (h62 : CtOK Go.Proofs.Try.prog 62 (ct_math_Abs g62)) (h63 : CtOK Go.Proofs.Try.prog 63 (ct_math_Copysign g63)) : EnvOK (env_math_trunc g50 g54 g62 g63 ).toEnv := by
  intro f c h
  simp only [env_math_trunc] at h
  split at h
  · rename_i e; subst e; cases h; exact h50
  split at h
  · rename_i e; subst e; cases h; exact h54
  split at h
  · rename_i e; subst e; cases h; exact h62
  split at h
  · rename_i e; subst e; cases h; exact h63
  simp at h
theorem math_trunc.ok (k : Nat) : CtOK Go.Proofs.Try.prog 59 (ct_math_trunc (math_trunc.f k)) := by
  refine ct_of_ev (E := env_math_trunc (math_Float64frombits.f k) (math_Float64bits.f k) (math_Abs.f k) (math_Copysign.f k) ) (math_trunc.is _ _ _ _ ) (math_trunc.envok _ _ _ _  (math_Float64frombits.ok k) (math_Float64bits.ok k) (math_Abs.ok k) (math_Copysign.ok k)) (fun s hs => by simp [env_math_trunc] at hs) rfl ?_
  intro tvs blks res h
  simp only [ct_math_trunc] at h
  split at h
  · refine (math_trunc.ev (math_Float64frombits.f k) (math_Float64bits.f k) (math_Abs.f k) (math_Copysign.f k)  _ ).trans ?_
    rw [math_trunc.c_bind]
    exact h
  · simp at h

/-! ### math_Trunc: function 55 -/
def ct_math_Trunc (g : Nat → Option Nat) : Ct where
  nin := 0
  mv := []
  F := fun tvs blks {β} K => match tvs, blks with
    | [.v (.one (.d .flt a0))], [] => (g a0).bind fun r => K ⟨.v (.one (.d .flt r)), []⟩
    | _, _ => none
  legit := fun tvs blks K r h => by
    split at h
    · obtain ⟨x, hx, hk⟩ := Option.bind_eq_some_iff.1 h
      refine ⟨_, ?_, hk⟩
      simp only [hx, Option.bind_some]
    · simp at h
noncomputable def env_math_Trunc (g58 : Nat → Option Nat) (g59 : Nat → Option Nat)  : FEnv := { P := Go.Proofs.Try.prog, ct := fun m => if m = 58 then some (ct_math_archTrunc g58) else if m = 59 then some (ct_math_trunc g59) else none, N := 7, body := Go.Proofs.Try.f55.body.getD .skip, rvs := [.tmp 2], rts := [70], nin := 0, rmv := [], segs := [] }
def math_Trunc.c {β : Type} (g58 : Nat → Option Nat) (g59 : Nat → Option Nat)  (a0 : Nat) (ret : Nat → Option β) : Option β := ((g58 a0).bind fun r0 => (ret (r0)))
theorem math_Trunc.c_bind {β : Type} (g58 : Nat → Option Nat) (g59 : Nat → Option Nat)  (a0 : Nat) (ret : Nat → Option β) : math_Trunc.c g58 g59  a0 ret = (math_Trunc.c g58 g59  a0 some).bind ret := by
  simp only [math_Trunc.c, bif_bind, sum_bind, Option.bind_assoc, Option.bind_some, Option.bind_none, Option.bind_fun_some]
theorem math_Trunc.ev (g58 : Nat → Option Nat) (g59 : Nat → Option Nat)  (a0 : Nat) : evAt (env_math_Trunc g58 g59 ) [] [0] [.v (.one (.d .flt a0))] [] some = math_Trunc.c g58 g59  a0 (fun r => some ⟨.v (.one (.d .flt r)), []⟩) := by
  kernel_rfl
def math_Trunc.f (k : Nat) (a0 : Nat) : Option Nat := math_Trunc.c (math_archTrunc.f k) (math_trunc.f k)  a0 some
theorem math_Trunc.is (g58 : Nat → Option Nat) (g59 : Nat → Option Nat)  : FnIs (env_math_Trunc g58 g59 ) 55 Go.Proofs.Try.f55 := ⟨Go.Proofs.Try.func55, rfl, rfl, rfl, by decide⟩
theorem math_Trunc.envok (g58 : Nat → Option Nat) (g59 : Nat → Option Nat)  (h58 : CtOK Go.Proofs.Try.prog 58 (ct_math_archTrunc g58)) (h59 : CtOK Go.Proofs.Try.prog 59 (ct_math_trunc g59)) : EnvOK (env_math_Trunc g58 g59 ).toEnv := by
  intro f c h
  simp only [env_math_Trunc] at h
  split at h
  · rename_i e; subst e; cases h; exact h58
  split at h
  · rename_i e; subst e; cases h; exact h59
  simp at h
theorem math_Trunc.ok (k : Nat) : CtOK Go.Proofs.Try.prog 55 (ct_math_Trunc (math_Trunc.f k)) := by
  refine ct_of_ev (E := env_math_Trunc (math_archTrunc.f k) (math_trunc.f k) ) (math_Trunc.is _ _ ) (math_Trunc.envok _ _  (math_archTrunc.ok k) (math_trunc.ok k)) (fun s hs => by simp [env_math_Trunc] at hs) rfl ?_
  intro tvs blks res h
  simp only [ct_math_Trunc] at h
  split at h
  · refine (math_Trunc.ev (math_archTrunc.f k) (math_trunc.f k)  _ ).trans ?_
    rw [math_Trunc.c_bind]
    exact h
  · simp at h

/-! ### reals_ToInt: function 42 -/
def ct_reals_ToInt (g : Int → Option (Int × Bool)) : Ct where
  nin := 0
  mv := []
  F := fun tvs blks {β} K => match tvs, blks with
    | [.v (.one (.d (.int .u64) a0))], [] => (g a0).bind fun r => K ⟨.tup [(.one (.d (.int .i64) r.1)), (.one (.d .bool r.2))], []⟩
    | _, _ => none
  legit := fun tvs blks K r h => by
    split at h
    · obtain ⟨x, hx, hk⟩ := Option.bind_eq_some_iff.1 h
      refine ⟨_, ?_, hk⟩
      simp only [hx, Option.bind_some]
    · simp at h
noncomputable def env_reals_ToInt (g50 : Int → Option Nat) (g55 : Nat → Option Nat)  : FEnv := { P := Go.Proofs.Try.prog, ct := fun m => if m = 50 then some (ct_math_Float64frombits g50) else if m = 55 then some (ct_math_Trunc g55) else none, N := 26, body := Go.Proofs.Try.f42.body.getD .skip, rvs := [.tmp 2, .tmp 3], rts := [3, 4], nin := 0, rmv := [], segs := [] }
def reals_ToInt.c {β : Type} (g50 : Int → Option Nat) (g55 : Nat → Option Nat)  (a0 : Int) (ret : (Int × Bool) → Option β) : Option β := ((g50 a0).bind fun r0 => (bif ((Ieee.Format.order (FloatKind.format FloatKind.f64) r0 r0) != (Option.some Ordering.eq)) then (ret ((0 : Int), false)) else (bif ((Ieee.Format.order (FloatKind.format FloatKind.f64) r0 (14114281232179134464 : Nat)) == (Option.some Ordering.lt)) then (ret ((0 : Int), false)) else (bif (((Ieee.Format.order (FloatKind.format FloatKind.f64) r0 (4890909195324358656 : Nat)) == (Option.some Ordering.gt)) || ((Ieee.Format.order (FloatKind.format FloatKind.f64) r0 (4890909195324358656 : Nat)) == (Option.some Ordering.eq))) then (ret ((0 : Int), false)) else ((g55 r0).bind fun r1 => (bif ((Ieee.Format.order (FloatKind.format FloatKind.f64) r0 r1) != (Option.some Ordering.eq)) then (ret ((0 : Int), false)) else (bif (((Option.isSome (Ieee.Datum.toInt Ieee.Toward.zero (FloatKind.decode FloatKind.f64 r0))) && (decide ((-9223372036854775808 : Int) ≤ (Option.getD (Ieee.Datum.toInt Ieee.Toward.zero (FloatKind.decode FloatKind.f64 r0)) (0 : Int))))) && (decide ((Option.getD (Ieee.Datum.toInt Ieee.Toward.zero (FloatKind.decode FloatKind.f64 r0)) (0 : Int)) ≤ (9223372036854775807 : Int)))) then (ret ((Option.getD (Ieee.Datum.toInt Ieee.Toward.zero (FloatKind.decode FloatKind.f64 r0)) (0 : Int)), true)) else none)))))))
theorem reals_ToInt.c_bind {β : Type} (g50 : Int → Option Nat) (g55 : Nat → Option Nat)  (a0 : Int) (ret : (Int × Bool) → Option β) : reals_ToInt.c g50 g55  a0 ret = (reals_ToInt.c g50 g55  a0 some).bind ret := by
  simp only [reals_ToInt.c, bif_bind, sum_bind, Option.bind_assoc, Option.bind_some, Option.bind_none, Option.bind_fun_some]
theorem reals_ToInt.ev (g50 : Int → Option Nat) (g55 : Nat → Option Nat)  (a0 : Int) : evAt (env_reals_ToInt g50 g55 ) [] [0] [.v (.one (.d (.int .u64) a0))] [] some = reals_ToInt.c g50 g55  a0 (fun r => some ⟨.tup [(.one (.d (.int .i64) r.1)), (.one (.d .bool r.2))], []⟩) := by
  kernel_rfl
def reals_ToInt.f (k : Nat) (a0 : Int) : Option (Int × Bool) := reals_ToInt.c (math_Float64frombits.f k) (math_Trunc.f k)  a0 some
theorem reals_ToInt.is (g50 : Int → Option Nat) (g55 : Nat → Option Nat)  : FnIs (env_reals_ToInt g50 g55 ) 42 Go.Proofs.Try.f42 := ⟨Go.Proofs.Try.func42, rfl, rfl, rfl, by decide⟩
theorem reals_ToInt.envok (g50 : Int → Option Nat) (g55 : Nat → Option Nat)  (h50 : CtOK Go.Proofs.Try.prog 50 (ct_math_Float64frombits g50)) (h55 : CtOK Go.Proofs.Try.prog 55 (ct_math_Trunc g55)) : EnvOK (env_reals_ToInt g50 g55 ).toEnv := by
  intro f c h
  simp only [env_reals_ToInt] at h
  split at h
  · rename_i e; subst e; cases h; exact h50
  split at h
  · rename_i e; subst e; cases h; exact h55
  simp at h
theorem reals_ToInt.ok (k : Nat) : CtOK Go.Proofs.Try.prog 42 (ct_reals_ToInt (reals_ToInt.f k)) := by
  refine ct_of_ev (E := env_reals_ToInt (math_Float64frombits.f k) (math_Trunc.f k) ) (reals_ToInt.is _ _ ) (reals_ToInt.envok _ _  (math_Float64frombits.ok k) (math_Trunc.ok k)) (fun s hs => by simp [env_reals_ToInt] at hs) rfl ?_
  intro tvs blks res h
  simp only [ct_reals_ToInt] at h
  split at h
  · refine (reals_ToInt.ev (math_Float64frombits.f k) (math_Trunc.f k)  _ ).trans ?_
    rw [reals_ToInt.c_bind]
    exact h
  · simp at h

/-! ### convert_ofReal: function 25 -/
def ct_convert_ofReal (g : Int → Int → Option ((Int × Int × Int × ByteArray) ⊕ Int)) : Ct where
  nin := 0
  mv := []
  F := fun tvs blks {β} K => match tvs, blks with
    | [.v (.one (.d (.int .u64) a0)), .v (.one (.d (.int .i64) a1))], [] => (g a0 a1).bind fun r => Sum.elim (fun r => K ⟨.v (.one (.fn 39 [(0, 0)])), [some (.box [(.d (.int .i64) r.1), (.d (.int .i64) r.2.1), (.d (.int .u64) r.2.2.1), (.d .str r.2.2.2)])]⟩) (fun r => K ⟨.v (.one (.fn 38 [(0, 0)])), [some (.box [(.d (.int .i64) r)])]⟩) r
    | _, _ => none
  legit := fun tvs blks K r h => by
    split at h
    · obtain ⟨x, hx, hk⟩ := Option.bind_eq_some_iff.1 h
      rcases x with x | x <;> (simp only [Sum.elim_inl, Sum.elim_inr] at hk; exact ⟨_, by simp only [hx, Option.bind_some, Sum.elim_inl, Sum.elim_inr], hk⟩)
    · simp at h
noncomputable def env_convert_ofReal (g21 : Int → Option Int) (g22 : Int → Int → Int → ByteArray → Option (Int × Int × Int × ByteArray)) (g24 : Int → Int → Option (Int ⊕ (Int × Int × Int × ByteArray))) (g41 : Int → Option ByteArray) (g42 : Int → Option (Int × Bool))  : FEnv := { P := Go.Proofs.Try.prog, ct := fun m => if m = 21 then some (ct_convert_refuse g21) else if m = 22 then some (ct_convert_give g22) else if m = 24 then some (ct_convert_ofInt g24) else if m = 41 then some (ct_convert_eight g41) else if m = 42 then some (ct_reals_ToInt g42) else none, N := 25, body := Go.Proofs.Try.f25.body.getD .skip, rvs := [.tmp 4], rts := [45], nin := 0, rmv := [], segs := [] }
def convert_ofReal.c {β : Type} (g21 : Int → Option Int) (g22 : Int → Int → Int → ByteArray → Option (Int × Int × Int × ByteArray)) (g24 : Int → Int → Option (Int ⊕ (Int × Int × Int × ByteArray))) (g41 : Int → Option ByteArray) (g42 : Int → Option (Int × Bool))  (a0 : Int) (a1 : Int) (ret : ((Int × Int × Int × ByteArray) ⊕ Int) → Option β) : Option β := (bif (a1 == (4 : Int)) then ((g41 a0).bind fun r0 => ((g22 a1 (0 : Int) (0 : Int) r0).bind fun r1 => (ret (.inl (r1.1, r1.2.1, r1.2.2.1, r1.2.2.2))))) else ((g42 a0).bind fun r2 => (bif (!r2.2) then ((g21 (6 : Int)).bind fun r3 => (ret (.inr (r3)))) else ((g24 r2.1 a1).bind fun r4 => (Sum.elim (fun r5 => (ret (.inr (r5)))) (fun r6 => (ret (.inl (r6.1, r6.2.1, r6.2.2.1, r6.2.2.2)))) r4)))))
theorem convert_ofReal.c_bind {β : Type} (g21 : Int → Option Int) (g22 : Int → Int → Int → ByteArray → Option (Int × Int × Int × ByteArray)) (g24 : Int → Int → Option (Int ⊕ (Int × Int × Int × ByteArray))) (g41 : Int → Option ByteArray) (g42 : Int → Option (Int × Bool))  (a0 : Int) (a1 : Int) (ret : ((Int × Int × Int × ByteArray) ⊕ Int) → Option β) : convert_ofReal.c g21 g22 g24 g41 g42  a0 a1 ret = (convert_ofReal.c g21 g22 g24 g41 g42  a0 a1 some).bind ret := by
  simp only [convert_ofReal.c, bif_bind, sum_bind, Option.bind_assoc, Option.bind_some, Option.bind_none, Option.bind_fun_some]
theorem convert_ofReal.ev (g21 : Int → Option Int) (g22 : Int → Int → Int → ByteArray → Option (Int × Int × Int × ByteArray)) (g24 : Int → Int → Option (Int ⊕ (Int × Int × Int × ByteArray))) (g41 : Int → Option ByteArray) (g42 : Int → Option (Int × Bool))  (a0 : Int) (a1 : Int) : evAt (env_convert_ofReal g21 g22 g24 g41 g42 ) [] [0, 1] [.v (.one (.d (.int .u64) a0)), .v (.one (.d (.int .i64) a1))] [] some = convert_ofReal.c g21 g22 g24 g41 g42  a0 a1 (fun r => Sum.elim (fun r => some ⟨.v (.one (.fn 39 [(0, 0)])), [some (.box [(.d (.int .i64) r.1), (.d (.int .i64) r.2.1), (.d (.int .u64) r.2.2.1), (.d .str r.2.2.2)])]⟩) (fun r => some ⟨.v (.one (.fn 38 [(0, 0)])), [some (.box [(.d (.int .i64) r)])]⟩) r) := by
  kernel_rfl
def convert_ofReal.f (k : Nat) (a0 : Int) (a1 : Int) : Option ((Int × Int × Int × ByteArray) ⊕ Int) := convert_ofReal.c (convert_refuse.f k) (convert_give.f k) (convert_ofInt.f k) (convert_eight.f k) (reals_ToInt.f k)  a0 a1 some
theorem convert_ofReal.is (g21 : Int → Option Int) (g22 : Int → Int → Int → ByteArray → Option (Int × Int × Int × ByteArray)) (g24 : Int → Int → Option (Int ⊕ (Int × Int × Int × ByteArray))) (g41 : Int → Option ByteArray) (g42 : Int → Option (Int × Bool))  : FnIs (env_convert_ofReal g21 g22 g24 g41 g42 ) 25 Go.Proofs.Try.f25 := ⟨Go.Proofs.Try.func25, rfl, rfl, rfl, by decide⟩
theorem convert_ofReal.envok (g21 : Int → Option Int) (g22 : Int → Int → Int → ByteArray → Option (Int × Int × Int × ByteArray)) (g24 : Int → Int → Option (Int ⊕ (Int × Int × Int × ByteArray))) (g41 : Int → Option ByteArray) (g42 : Int → Option (Int × Bool))  (h21 : CtOK Go.Proofs.Try.prog 21 (ct_convert_refuse g21)) (h22 : CtOK Go.Proofs.Try.prog 22 (ct_convert_give g22)) (h24 : CtOK Go.Proofs.Try.prog 24 (ct_convert_ofInt g24)) (h41 : CtOK Go.Proofs.Try.prog 41 (ct_convert_eight g41)) (h42 : CtOK Go.Proofs.Try.prog 42 (ct_reals_ToInt g42)) : EnvOK (env_convert_ofReal g21 g22 g24 g41 g42 ).toEnv := by
  intro f c h
  simp only [env_convert_ofReal] at h
  split at h
  · rename_i e; subst e; cases h; exact h21
  split at h
  · rename_i e; subst e; cases h; exact h22
  split at h
  · rename_i e; subst e; cases h; exact h24
  split at h
  · rename_i e; subst e; cases h; exact h41
  split at h
  · rename_i e; subst e; cases h; exact h42
  simp at h
theorem convert_ofReal.ok (k : Nat) : CtOK Go.Proofs.Try.prog 25 (ct_convert_ofReal (convert_ofReal.f k)) := by
  refine ct_of_ev (E := env_convert_ofReal (convert_refuse.f k) (convert_give.f k) (convert_ofInt.f k) (convert_eight.f k) (reals_ToInt.f k) ) (convert_ofReal.is _ _ _ _ _ ) (convert_ofReal.envok _ _ _ _ _  (convert_refuse.ok k) (convert_give.ok k) (convert_ofInt.ok k) (convert_eight.ok k) (reals_ToInt.ok k)) (fun s hs => by simp [env_convert_ofReal] at hs) rfl ?_
  intro tvs blks res h
  simp only [ct_convert_ofReal] at h
  split at h
  · refine (convert_ofReal.ev (convert_refuse.f k) (convert_give.f k) (convert_ofInt.f k) (convert_eight.f k) (reals_ToInt.f k)  _ _ ).trans ?_
    rw [convert_ofReal.c_bind]
    exact h
  · simp at h

/-! ### convert_ofBytes: function 26 -/
def ct_convert_ofBytes (g : ByteArray → Int → Option (Int ⊕ (Int × Int × Int × ByteArray))) : Ct where
  nin := 0
  mv := []
  F := fun tvs blks {β} K => match tvs, blks with
    | [.v (.one (.d .str a0)), .v (.one (.d (.int .i64) a1))], [] => (g a0 a1).bind fun r => Sum.elim (fun r => K ⟨.v (.one (.fn 38 [(0, 0)])), [some (.box [(.d (.int .i64) r)])]⟩) (fun r => K ⟨.v (.one (.fn 39 [(0, 0)])), [some (.box [(.d (.int .i64) r.1), (.d (.int .i64) r.2.1), (.d (.int .u64) r.2.2.1), (.d .str r.2.2.2)])]⟩) r
    | _, _ => none
  legit := fun tvs blks K r h => by
    split at h
    · obtain ⟨x, hx, hk⟩ := Option.bind_eq_some_iff.1 h
      rcases x with x | x <;> (simp only [Sum.elim_inl, Sum.elim_inr] at hk; exact ⟨_, by simp only [hx, Option.bind_some, Sum.elim_inl, Sum.elim_inr], hk⟩)
    · simp at h
def seg_convert_ofBytes_0 (g : ByteArray → Int → Bool → Option (Int ⊕ (Int × Int × Int × ByteArray))) : Seg where
  path := [1, 4, 0, 1]
  prep := []
  keep := [0, 1, 8]
  F := fun tvs blks {β} K => match tvs, blks with
    | [.v (.one (.d .str x0)), .v (.one (.d (.int .i64) x1)), .v (.one (.d .bool x2))], [] => (g x0 x1 x2).bind fun r => Sum.elim (fun r => K ⟨.v (.one (.fn 38 [(0, 0)])), [some (.box [(.d (.int .i64) r)])]⟩) (fun r => K ⟨.v (.one (.fn 39 [(0, 0)])), [some (.box [(.d (.int .i64) r.1), (.d (.int .i64) r.2.1), (.d (.int .u64) r.2.2.1), (.d .str r.2.2.2)])]⟩) r
    | _, _ => none
  legit := fun tvs blks K r h => by
    split at h
    · obtain ⟨x, hx, hk⟩ := Option.bind_eq_some_iff.1 h
      rcases x with x | x <;> (simp only [Sum.elim_inl, Sum.elim_inr] at hk; exact ⟨_, by simp only [hx, Option.bind_some, Sum.elim_inl, Sum.elim_inr], hk⟩)
    · simp at h
def seg_convert_ofBytes_1 (g : ByteArray → Int → Option (Int ⊕ (Int × Int × Int × ByteArray))) : Seg where
  path := [1, 1]
  prep := []
  keep := [0, 1]
  F := fun tvs blks {β} K => match tvs, blks with
    | [.v (.one (.d .str x0)), .v (.one (.d (.int .i64) x1))], [] => (g x0 x1).bind fun r => Sum.elim (fun r => K ⟨.v (.one (.fn 38 [(0, 0)])), [some (.box [(.d (.int .i64) r)])]⟩) (fun r => K ⟨.v (.one (.fn 39 [(0, 0)])), [some (.box [(.d (.int .i64) r.1), (.d (.int .i64) r.2.1), (.d (.int .u64) r.2.2.1), (.d .str r.2.2.2)])]⟩) r
    | _, _ => none
  legit := fun tvs blks K r h => by
    split at h
    · obtain ⟨x, hx, hk⟩ := Option.bind_eq_some_iff.1 h
      rcases x with x | x <;> (simp only [Sum.elim_inl, Sum.elim_inr] at hk; exact ⟨_, by simp only [hx, Option.bind_some, Sum.elim_inl, Sum.elim_inr], hk⟩)
    · simp at h
def seg_convert_ofBytes_2 (g : Int → Int → (List Int) → Int → Int → Option (Int ⊕ (Int × Int × Int × ByteArray))) : Seg where
  path := [4, 1, 0, 1, 1, 1]
  prep := []
  keep := [1, 5, 30, 31, 32]
  F := fun tvs blks {β} K => match tvs, blks with
    | [.v (.one (.d (.int .i64) x0)), .v (.one (.d (.int .u64) x1)), .v (.one (.d (.sl (.int .u8)) x2)), .v (.one (.d (.int .i64) x3)), .v (.one (.d (.int .i64) x4))], [] => (g x0 x1 x2 x3 x4).bind fun r => Sum.elim (fun r => K ⟨.v (.one (.fn 38 [(0, 0)])), [some (.box [(.d (.int .i64) r)])]⟩) (fun r => K ⟨.v (.one (.fn 39 [(0, 0)])), [some (.box [(.d (.int .i64) r.1), (.d (.int .i64) r.2.1), (.d (.int .u64) r.2.2.1), (.d .str r.2.2.2)])]⟩) r
    | _, _ => none
  legit := fun tvs blks K r h => by
    split at h
    · obtain ⟨x, hx, hk⟩ := Option.bind_eq_some_iff.1 h
      rcases x with x | x <;> (simp only [Sum.elim_inl, Sum.elim_inr] at hk; exact ⟨_, by simp only [hx, Option.bind_some, Sum.elim_inl, Sum.elim_inr], hk⟩)
    · simp at h
noncomputable def env_convert_ofBytes (g21 : Int → Option Int) (g22 : Int → Int → Int → ByteArray → Option (Int × Int × Int × ByteArray)) (g35 : Int → Option Int) (g36 : ByteArray → Option Bool) (s0 : ByteArray → Int → Bool → Option (Int ⊕ (Int × Int × Int × ByteArray))) (s1 : ByteArray → Int → Option (Int ⊕ (Int × Int × Int × ByteArray))) (s2 : Int → Int → (List Int) → Int → Int → Option (Int ⊕ (Int × Int × Int × ByteArray))) : FEnv := { P := Go.Proofs.Try.prog, ct := fun m => if m = 21 then some (ct_convert_refuse g21) else if m = 22 then some (ct_convert_give g22) else if m = 35 then some (ct_reals_Canon g35) else if m = 36 then some (ct_utf_Valid g36) else none, N := 54, body := Go.Proofs.Try.f26.body.getD .skip, rvs := [.tmp 4], rts := [45], nin := 0, rmv := [], segs := [seg_convert_ofBytes_0 s0, seg_convert_ofBytes_1 s1, seg_convert_ofBytes_2 s2] }
def convert_ofBytes.c {β : Type} (g21 : Int → Option Int) (g22 : Int → Int → Int → ByteArray → Option (Int × Int × Int × ByteArray)) (g35 : Int → Option Int) (g36 : ByteArray → Option Bool) (s0 : ByteArray → Int → Bool → Option (Int ⊕ (Int × Int × Int × ByteArray))) (s1 : ByteArray → Int → Option (Int ⊕ (Int × Int × Int × ByteArray))) (s2 : Int → Int → (List Int) → Int → Int → Option (Int ⊕ (Int × Int × Int × ByteArray))) (a0 : ByteArray) (a1 : Int) (ret : (Int ⊕ (Int × Int × Int × ByteArray)) → Option β) : Option β := (bif (a1 == (5 : Int)) then ((g36 a0).bind fun r0 => ((s0 a0 a1 (!r0)).bind ret)) else ((s0 a0 a1 false).bind ret))
def convert_ofBytes.s0c {β : Type} (g21 : Int → Option Int) (g22 : Int → Int → Int → ByteArray → Option (Int × Int × Int × ByteArray)) (g35 : Int → Option Int) (g36 : ByteArray → Option Bool) (s0 : ByteArray → Int → Bool → Option (Int ⊕ (Int × Int × Int × ByteArray))) (s1 : ByteArray → Int → Option (Int ⊕ (Int × Int × Int × ByteArray))) (s2 : Int → Int → (List Int) → Int → Int → Option (Int ⊕ (Int × Int × Int × ByteArray))) (x0 : ByteArray) (x1 : Int) (x2 : Bool) (ret : (Int ⊕ (Int × Int × Int × ByteArray)) → Option β) : Option β := (bif x2 then ((g21 (7 : Int)).bind fun r0 => (ret (.inl (r0)))) else (bif (x1 == (5 : Int)) then ((g22 x1 (0 : Int) (0 : Int) x0).bind fun r1 => (ret (.inr (r1.1, r1.2.1, r1.2.2.1, r1.2.2.2)))) else (bif (((ByteArray.size x0) : Int) != (8 : Int)) then ((g21 (6 : Int)).bind fun r2 => (ret (.inl (r2)))) else ((s1 x0 x1).bind ret))))
def convert_ofBytes.s1c {β : Type} (g21 : Int → Option Int) (g22 : Int → Int → Int → ByteArray → Option (Int × Int × Int × ByteArray)) (g35 : Int → Option Int) (g36 : ByteArray → Option Bool) (s0 : ByteArray → Int → Bool → Option (Int ⊕ (Int × Int × Int × ByteArray))) (s1 : ByteArray → Int → Option (Int ⊕ (Int × Int × Int × ByteArray))) (s2 : Int → Int → (List Int) → Int → Int → Option (Int ⊕ (Int × Int × Int × ByteArray))) (x0 : ByteArray) (x1 : Int) (ret : (Int ⊕ (Int × Int × Int × ByteArray)) → Option β) : Option β := ((s2 x1 (0 : Int) (List.map (fun b => ((UInt8.toNat b) : Int)) (Array.toList (ByteArray.data x0))) ((List.length (List.map (fun b => ((UInt8.toNat b) : Int)) (Array.toList (ByteArray.data x0)))) : Int) (0 : Int)).bind ret)
def convert_ofBytes.s2c {β : Type} (g21 : Int → Option Int) (g22 : Int → Int → Int → ByteArray → Option (Int × Int × Int × ByteArray)) (g35 : Int → Option Int) (g36 : ByteArray → Option Bool) (s0 : ByteArray → Int → Bool → Option (Int ⊕ (Int × Int × Int × ByteArray))) (s1 : ByteArray → Int → Option (Int ⊕ (Int × Int × Int × ByteArray))) (s2 : Int → Int → (List Int) → Int → Int → Option (Int ⊕ (Int × Int × Int × ByteArray))) (x0 : Int) (x1 : Int) (x2 : List Int) (x3 : Int) (x4 : Int) (ret : (Int ⊕ (Int × Int × Int × ByteArray)) → Option β) : Option β := (bif (decide (x4 < x3)) then (bif ((decide ((0 : Int) ≤ x4)) && (decide (x4 < ((List.length x2) : Int)))) then ((s2 x0 (IntKind.wrap IntKind.u64 ((BitVec.toNat ((BitVec.ofInt (64 : Nat) (IntKind.wrap IntKind.u64 (x1 * (256 : Int)))) ||| (BitVec.ofInt (64 : Nat) (IntKind.wrap IntKind.u64 (elem (Ty.int IntKind.u8) x2 x4))))) : Int)) x2 x3 (IntKind.wrap IntKind.i64 (x4 + (1 : Int)))).bind ret) else none) else (bif (x0 == (3 : Int)) then ((g35 x1).bind fun r0 => ((g22 x0 (0 : Int) r0 (ByteArray.mk (List.toArray []))).bind fun r1 => (ret (.inr (r1.1, r1.2.1, r1.2.2.1, r1.2.2.2))))) else ((g22 x0 (IntKind.wrap IntKind.i64 x1) (0 : Int) (ByteArray.mk (List.toArray []))).bind fun r2 => (ret (.inr (r2.1, r2.2.1, r2.2.2.1, r2.2.2.2))))))
theorem convert_ofBytes.c_bind {β : Type} (g21 : Int → Option Int) (g22 : Int → Int → Int → ByteArray → Option (Int × Int × Int × ByteArray)) (g35 : Int → Option Int) (g36 : ByteArray → Option Bool) (s0 : ByteArray → Int → Bool → Option (Int ⊕ (Int × Int × Int × ByteArray))) (s1 : ByteArray → Int → Option (Int ⊕ (Int × Int × Int × ByteArray))) (s2 : Int → Int → (List Int) → Int → Int → Option (Int ⊕ (Int × Int × Int × ByteArray))) (a0 : ByteArray) (a1 : Int) (ret : (Int ⊕ (Int × Int × Int × ByteArray)) → Option β) : convert_ofBytes.c g21 g22 g35 g36 s0 s1 s2 a0 a1 ret = (convert_ofBytes.c g21 g22 g35 g36 s0 s1 s2 a0 a1 some).bind ret := by
  simp only [convert_ofBytes.c, bif_bind, sum_bind, Option.bind_assoc, Option.bind_some, Option.bind_none, Option.bind_fun_some]
theorem convert_ofBytes.s0c_bind {β : Type} (g21 : Int → Option Int) (g22 : Int → Int → Int → ByteArray → Option (Int × Int × Int × ByteArray)) (g35 : Int → Option Int) (g36 : ByteArray → Option Bool) (s0 : ByteArray → Int → Bool → Option (Int ⊕ (Int × Int × Int × ByteArray))) (s1 : ByteArray → Int → Option (Int ⊕ (Int × Int × Int × ByteArray))) (s2 : Int → Int → (List Int) → Int → Int → Option (Int ⊕ (Int × Int × Int × ByteArray))) (x0 : ByteArray) (x1 : Int) (x2 : Bool) (ret : (Int ⊕ (Int × Int × Int × ByteArray)) → Option β) : convert_ofBytes.s0c g21 g22 g35 g36 s0 s1 s2 x0 x1 x2 ret = (convert_ofBytes.s0c g21 g22 g35 g36 s0 s1 s2 x0 x1 x2 some).bind ret := by
  simp only [convert_ofBytes.s0c, bif_bind, sum_bind, Option.bind_assoc, Option.bind_some, Option.bind_none, Option.bind_fun_some]
theorem convert_ofBytes.s1c_bind {β : Type} (g21 : Int → Option Int) (g22 : Int → Int → Int → ByteArray → Option (Int × Int × Int × ByteArray)) (g35 : Int → Option Int) (g36 : ByteArray → Option Bool) (s0 : ByteArray → Int → Bool → Option (Int ⊕ (Int × Int × Int × ByteArray))) (s1 : ByteArray → Int → Option (Int ⊕ (Int × Int × Int × ByteArray))) (s2 : Int → Int → (List Int) → Int → Int → Option (Int ⊕ (Int × Int × Int × ByteArray))) (x0 : ByteArray) (x1 : Int) (ret : (Int ⊕ (Int × Int × Int × ByteArray)) → Option β) : convert_ofBytes.s1c g21 g22 g35 g36 s0 s1 s2 x0 x1 ret = (convert_ofBytes.s1c g21 g22 g35 g36 s0 s1 s2 x0 x1 some).bind ret := by
  simp only [convert_ofBytes.s1c, bif_bind, sum_bind, Option.bind_assoc, Option.bind_some, Option.bind_none, Option.bind_fun_some]
theorem convert_ofBytes.s2c_bind {β : Type} (g21 : Int → Option Int) (g22 : Int → Int → Int → ByteArray → Option (Int × Int × Int × ByteArray)) (g35 : Int → Option Int) (g36 : ByteArray → Option Bool) (s0 : ByteArray → Int → Bool → Option (Int ⊕ (Int × Int × Int × ByteArray))) (s1 : ByteArray → Int → Option (Int ⊕ (Int × Int × Int × ByteArray))) (s2 : Int → Int → (List Int) → Int → Int → Option (Int ⊕ (Int × Int × Int × ByteArray))) (x0 : Int) (x1 : Int) (x2 : List Int) (x3 : Int) (x4 : Int) (ret : (Int ⊕ (Int × Int × Int × ByteArray)) → Option β) : convert_ofBytes.s2c g21 g22 g35 g36 s0 s1 s2 x0 x1 x2 x3 x4 ret = (convert_ofBytes.s2c g21 g22 g35 g36 s0 s1 s2 x0 x1 x2 x3 x4 some).bind ret := by
  simp only [convert_ofBytes.s2c, bif_bind, sum_bind, Option.bind_assoc, Option.bind_some, Option.bind_none, Option.bind_fun_some]
theorem convert_ofBytes.ev (g21 : Int → Option Int) (g22 : Int → Int → Int → ByteArray → Option (Int × Int × Int × ByteArray)) (g35 : Int → Option Int) (g36 : ByteArray → Option Bool) (s0 : ByteArray → Int → Bool → Option (Int ⊕ (Int × Int × Int × ByteArray))) (s1 : ByteArray → Int → Option (Int ⊕ (Int × Int × Int × ByteArray))) (s2 : Int → Int → (List Int) → Int → Int → Option (Int ⊕ (Int × Int × Int × ByteArray))) (a0 : ByteArray) (a1 : Int) : evAt (env_convert_ofBytes g21 g22 g35 g36 s0 s1 s2) [] [0, 1] [.v (.one (.d .str a0)), .v (.one (.d (.int .i64) a1))] [] some = convert_ofBytes.c g21 g22 g35 g36 s0 s1 s2 a0 a1 (fun r => Sum.elim (fun r => some ⟨.v (.one (.fn 38 [(0, 0)])), [some (.box [(.d (.int .i64) r)])]⟩) (fun r => some ⟨.v (.one (.fn 39 [(0, 0)])), [some (.box [(.d (.int .i64) r.1), (.d (.int .i64) r.2.1), (.d (.int .u64) r.2.2.1), (.d .str r.2.2.2)])]⟩) r) := by
  kernel_rfl
theorem convert_ofBytes.s0_ev (g21 : Int → Option Int) (g22 : Int → Int → Int → ByteArray → Option (Int × Int × Int × ByteArray)) (g35 : Int → Option Int) (g36 : ByteArray → Option Bool) (s0 : ByteArray → Int → Bool → Option (Int ⊕ (Int × Int × Int × ByteArray))) (s1 : ByteArray → Int → Option (Int ⊕ (Int × Int × Int × ByteArray))) (s2 : Int → Int → (List Int) → Int → Int → Option (Int ⊕ (Int × Int × Int × ByteArray))) (x0 : ByteArray) (x1 : Int) (x2 : Bool) : evAt (env_convert_ofBytes g21 g22 g35 g36 s0 s1 s2) [1, 4, 0, 1] [0, 1, 8] [.v (.one (.d .str x0)), .v (.one (.d (.int .i64) x1)), .v (.one (.d .bool x2))] [] some = convert_ofBytes.s0c g21 g22 g35 g36 s0 s1 s2 x0 x1 x2 (fun r => Sum.elim (fun r => some ⟨.v (.one (.fn 38 [(0, 0)])), [some (.box [(.d (.int .i64) r)])]⟩) (fun r => some ⟨.v (.one (.fn 39 [(0, 0)])), [some (.box [(.d (.int .i64) r.1), (.d (.int .i64) r.2.1), (.d (.int .u64) r.2.2.1), (.d .str r.2.2.2)])]⟩) r) := by
  kernel_rfl
theorem convert_ofBytes.s1_ev (g21 : Int → Option Int) (g22 : Int → Int → Int → ByteArray → Option (Int × Int × Int × ByteArray)) (g35 : Int → Option Int) (g36 : ByteArray → Option Bool) (s0 : ByteArray → Int → Bool → Option (Int ⊕ (Int × Int × Int × ByteArray))) (s1 : ByteArray → Int → Option (Int ⊕ (Int × Int × Int × ByteArray))) (s2 : Int → Int → (List Int) → Int → Int → Option (Int ⊕ (Int × Int × Int × ByteArray))) (x0 : ByteArray) (x1 : Int) : evAt (env_convert_ofBytes g21 g22 g35 g36 s0 s1 s2) [1, 1] [0, 1] [.v (.one (.d .str x0)), .v (.one (.d (.int .i64) x1))] [] some = convert_ofBytes.s1c g21 g22 g35 g36 s0 s1 s2 x0 x1 (fun r => Sum.elim (fun r => some ⟨.v (.one (.fn 38 [(0, 0)])), [some (.box [(.d (.int .i64) r)])]⟩) (fun r => some ⟨.v (.one (.fn 39 [(0, 0)])), [some (.box [(.d (.int .i64) r.1), (.d (.int .i64) r.2.1), (.d (.int .u64) r.2.2.1), (.d .str r.2.2.2)])]⟩) r) := by
  kernel_rfl
theorem convert_ofBytes.s2_ev (g21 : Int → Option Int) (g22 : Int → Int → Int → ByteArray → Option (Int × Int × Int × ByteArray)) (g35 : Int → Option Int) (g36 : ByteArray → Option Bool) (s0 : ByteArray → Int → Bool → Option (Int ⊕ (Int × Int × Int × ByteArray))) (s1 : ByteArray → Int → Option (Int ⊕ (Int × Int × Int × ByteArray))) (s2 : Int → Int → (List Int) → Int → Int → Option (Int ⊕ (Int × Int × Int × ByteArray))) (x0 : Int) (x1 : Int) (x2 : List Int) (x3 : Int) (x4 : Int) : evAt (env_convert_ofBytes g21 g22 g35 g36 s0 s1 s2) [4, 1, 0, 1, 1, 1] [1, 5, 30, 31, 32] [.v (.one (.d (.int .i64) x0)), .v (.one (.d (.int .u64) x1)), .v (.one (.d (.sl (.int .u8)) x2)), .v (.one (.d (.int .i64) x3)), .v (.one (.d (.int .i64) x4))] [] some = convert_ofBytes.s2c g21 g22 g35 g36 s0 s1 s2 x0 x1 x2 x3 x4 (fun r => Sum.elim (fun r => some ⟨.v (.one (.fn 38 [(0, 0)])), [some (.box [(.d (.int .i64) r)])]⟩) (fun r => some ⟨.v (.one (.fn 39 [(0, 0)])), [some (.box [(.d (.int .i64) r.1), (.d (.int .i64) r.2.1), (.d (.int .u64) r.2.2.1), (.d .str r.2.2.2)])]⟩) r) := by
  kernel_rfl
mutual
def convert_ofBytes.s0 : Nat → ByteArray → Int → Bool → Option (Int ⊕ (Int × Int × Int × ByteArray))
  | 0, _, _, _ => none
  | k + 1, x0, x1, x2 => convert_ofBytes.s0c (convert_refuse.f k) (convert_give.f k) (reals_Canon.f k) (utf_Valid.f k) (convert_ofBytes.s0 k) (convert_ofBytes.s1 k) (convert_ofBytes.s2 k) x0 x1 x2 some
def convert_ofBytes.s1 : Nat → ByteArray → Int → Option (Int ⊕ (Int × Int × Int × ByteArray))
  | 0, _, _ => none
  | k + 1, x0, x1 => convert_ofBytes.s1c (convert_refuse.f k) (convert_give.f k) (reals_Canon.f k) (utf_Valid.f k) (convert_ofBytes.s0 k) (convert_ofBytes.s1 k) (convert_ofBytes.s2 k) x0 x1 some
def convert_ofBytes.s2 : Nat → Int → Int → (List Int) → Int → Int → Option (Int ⊕ (Int × Int × Int × ByteArray))
  | 0, _, _, _, _, _ => none
  | k + 1, x0, x1, x2, x3, x4 => convert_ofBytes.s2c (convert_refuse.f k) (convert_give.f k) (reals_Canon.f k) (utf_Valid.f k) (convert_ofBytes.s0 k) (convert_ofBytes.s1 k) (convert_ofBytes.s2 k) x0 x1 x2 x3 x4 some
end
def convert_ofBytes.f (k : Nat) (a0 : ByteArray) (a1 : Int) : Option (Int ⊕ (Int × Int × Int × ByteArray)) := convert_ofBytes.c (convert_refuse.f k) (convert_give.f k) (reals_Canon.f k) (utf_Valid.f k) (convert_ofBytes.s0 k) (convert_ofBytes.s1 k) (convert_ofBytes.s2 k) a0 a1 some
theorem convert_ofBytes.is (g21 : Int → Option Int) (g22 : Int → Int → Int → ByteArray → Option (Int × Int × Int × ByteArray)) (g35 : Int → Option Int) (g36 : ByteArray → Option Bool) (s0 : ByteArray → Int → Bool → Option (Int ⊕ (Int × Int × Int × ByteArray))) (s1 : ByteArray → Int → Option (Int ⊕ (Int × Int × Int × ByteArray))) (s2 : Int → Int → (List Int) → Int → Int → Option (Int ⊕ (Int × Int × Int × ByteArray))) : FnIs (env_convert_ofBytes g21 g22 g35 g36 s0 s1 s2) 26 Go.Proofs.Try.f26 := ⟨Go.Proofs.Try.func26, rfl, rfl, rfl, by decide⟩
theorem convert_ofBytes.envok (g21 : Int → Option Int) (g22 : Int → Int → Int → ByteArray → Option (Int × Int × Int × ByteArray)) (g35 : Int → Option Int) (g36 : ByteArray → Option Bool) (s0 : ByteArray → Int → Bool → Option (Int ⊕ (Int × Int × Int × ByteArray))) (s1 : ByteArray → Int → Option (Int ⊕ (Int × Int × Int × ByteArray))) (s2 : Int → Int → (List Int) → Int → Int → Option (Int ⊕ (Int × Int × Int × ByteArray))) (h21 : CtOK Go.Proofs.Try.prog 21 (ct_convert_refuse g21)) (h22 : CtOK Go.Proofs.Try.prog 22 (ct_convert_give g22)) (h35 : CtOK Go.Proofs.Try.prog 35 (ct_reals_Canon g35)) (h36 : CtOK Go.Proofs.Try.prog 36 (ct_utf_Valid g36)) : EnvOK (env_convert_ofBytes g21 g22 g35 g36 s0 s1 s2).toEnv := by
  intro f c h
  simp only [env_convert_ofBytes] at h
  split at h
  · rename_i e; subst e; cases h; exact h21
  split at h
  · rename_i e; subst e; cases h; exact h22
  split at h
  · rename_i e; subst e; cases h; exact h35
  split at h
  · rename_i e; subst e; cases h; exact h36
  simp at h
theorem convert_ofBytes.segs_ok : ∀ k, ∀ s ∈ (env_convert_ofBytes (convert_refuse.f k) (convert_give.f k) (reals_Canon.f k) (utf_Valid.f k) (convert_ofBytes.s0 k) (convert_ofBytes.s1 k) (convert_ofBytes.s2 k)).segs, SegOK (env_convert_ofBytes (convert_refuse.f k) (convert_give.f k) (reals_Canon.f k) (utf_Valid.f k) (convert_ofBytes.s0 k) (convert_ofBytes.s1 k) (convert_ofBytes.s2 k)) Go.Proofs.Try.f26 s
  | 0 => by
    intro s hs
    simp only [env_convert_ofBytes, List.mem_cons, List.not_mem_nil, or_false] at hs
    rcases hs with rfl | rfl | rfl
    · intro tvs blks res h; exfalso; simp only [seg_convert_ofBytes_0] at h; split at h <;> simp [convert_ofBytes.s0] at h
    · intro tvs blks res h; exfalso; simp only [seg_convert_ofBytes_1] at h; split at h <;> simp [convert_ofBytes.s1] at h
    · intro tvs blks res h; exfalso; simp only [seg_convert_ofBytes_2] at h; split at h <;> simp [convert_ofBytes.s2] at h
  | k + 1 => by
    have ih := convert_ofBytes.segs_ok k
    intro s hs
    simp only [env_convert_ofBytes, List.mem_cons, List.not_mem_nil, or_false] at hs
    rcases hs with rfl | rfl | rfl
    · refine seg_of_ev (E := env_convert_ofBytes (convert_refuse.f k) (convert_give.f k) (reals_Canon.f k) (utf_Valid.f k) (convert_ofBytes.s0 k) (convert_ofBytes.s1 k) (convert_ofBytes.s2 k)) (convert_ofBytes.envok _ _ _ _ _ _ _  (convert_refuse.ok k) (convert_give.ok k) (reals_Canon.ok k) (utf_Valid.ok k)) ⟨(convert_ofBytes.is (convert_refuse.f k) (convert_give.f k) (reals_Canon.f k) (utf_Valid.f k) (convert_ofBytes.s0 k) (convert_ofBytes.s1 k) (convert_ofBytes.s2 k)).rvs⟩ ih ?_
      intro tvs blks res h
      simp only [seg_convert_ofBytes_0] at h
      split at h
      · refine (convert_ofBytes.s0_ev (convert_refuse.f k) (convert_give.f k) (reals_Canon.f k) (utf_Valid.f k) (convert_ofBytes.s0 k) (convert_ofBytes.s1 k) (convert_ofBytes.s2 k) _ _ _ ).trans ?_
        rw [convert_ofBytes.s0c_bind]
        exact h
      · simp at h
    · refine seg_of_ev (E := env_convert_ofBytes (convert_refuse.f k) (convert_give.f k) (reals_Canon.f k) (utf_Valid.f k) (convert_ofBytes.s0 k) (convert_ofBytes.s1 k) (convert_ofBytes.s2 k)) (convert_ofBytes.envok _ _ _ _ _ _ _  (convert_refuse.ok k) (convert_give.ok k) (reals_Canon.ok k) (utf_Valid.ok k)) ⟨(convert_ofBytes.is (convert_refuse.f k) (convert_give.f k) (reals_Canon.f k) (utf_Valid.f k) (convert_ofBytes.s0 k) (convert_ofBytes.s1 k) (convert_ofBytes.s2 k)).rvs⟩ ih ?_
      intro tvs blks res h
      simp only [seg_convert_ofBytes_1] at h
      split at h
      · refine (convert_ofBytes.s1_ev (convert_refuse.f k) (convert_give.f k) (reals_Canon.f k) (utf_Valid.f k) (convert_ofBytes.s0 k) (convert_ofBytes.s1 k) (convert_ofBytes.s2 k) _ _ ).trans ?_
        rw [convert_ofBytes.s1c_bind]
        exact h
      · simp at h
    · refine seg_of_ev (E := env_convert_ofBytes (convert_refuse.f k) (convert_give.f k) (reals_Canon.f k) (utf_Valid.f k) (convert_ofBytes.s0 k) (convert_ofBytes.s1 k) (convert_ofBytes.s2 k)) (convert_ofBytes.envok _ _ _ _ _ _ _  (convert_refuse.ok k) (convert_give.ok k) (reals_Canon.ok k) (utf_Valid.ok k)) ⟨(convert_ofBytes.is (convert_refuse.f k) (convert_give.f k) (reals_Canon.f k) (utf_Valid.f k) (convert_ofBytes.s0 k) (convert_ofBytes.s1 k) (convert_ofBytes.s2 k)).rvs⟩ ih ?_
      intro tvs blks res h
      simp only [seg_convert_ofBytes_2] at h
      split at h
      · refine (convert_ofBytes.s2_ev (convert_refuse.f k) (convert_give.f k) (reals_Canon.f k) (utf_Valid.f k) (convert_ofBytes.s0 k) (convert_ofBytes.s1 k) (convert_ofBytes.s2 k) _ _ _ _ _ ).trans ?_
        rw [convert_ofBytes.s2c_bind]
        exact h
      · simp at h
theorem convert_ofBytes.ok (k : Nat) : CtOK Go.Proofs.Try.prog 26 (ct_convert_ofBytes (convert_ofBytes.f k)) := by
  refine ct_of_ev (E := env_convert_ofBytes (convert_refuse.f k) (convert_give.f k) (reals_Canon.f k) (utf_Valid.f k) (convert_ofBytes.s0 k) (convert_ofBytes.s1 k) (convert_ofBytes.s2 k)) (convert_ofBytes.is _ _ _ _ _ _ _ ) (convert_ofBytes.envok _ _ _ _ _ _ _  (convert_refuse.ok k) (convert_give.ok k) (reals_Canon.ok k) (utf_Valid.ok k)) (convert_ofBytes.segs_ok k) rfl ?_
  intro tvs blks res h
  simp only [ct_convert_ofBytes] at h
  split at h
  · refine (convert_ofBytes.ev (convert_refuse.f k) (convert_give.f k) (reals_Canon.f k) (utf_Valid.f k) (convert_ofBytes.s0 k) (convert_ofBytes.s1 k) (convert_ofBytes.s2 k) _ _ ).trans ?_
    rw [convert_ofBytes.c_bind]
    exact h
  · simp at h
end Go.Proofs.Ytndkobhclggeiaa.Aev
