/- By a program of this session (AEV): functions of the program as plain functions, and that the machine does what they say. -/
import Derived.Test.YtlclhjdfbkenfaaAevW
import Derived.Test.YtlclhjdfbkenfaaProg
import Derived.Laws.Externs
import Derived.Lib.Bytealg
import Derived.Test.YtlclhjdfbkenfaaF0
import Derived.Test.YtlclhjdfbkenfaaF5
namespace Go.Proofs.Ytlclhjdfbkenfaa.Aev
set_option linter.unusedVariables false
set_option linter.unusedSimpArgs false
set_option maxRecDepth 100000
set_option maxHeartbeats 4000000
open Go
/-! ### reals_Key: function 66 -/
def ct_reals_Key (g : Int → Option Int) : Ct where
  nin := 0
  mv := []
  F := fun tvs blks {β} K => match tvs, blks with
    | [.v (.one (.d (.int .u64) a0))], [] => (g a0).bind fun r => K ⟨.v (.one (.d (.int .u64) r)), []⟩
    | _, _ => none
  legit := fun tvs blks K r h => by
    split at h
    · obtain ⟨x, hx, hk⟩ := Option.bind_eq_some_iff.1 h
      refine ⟨_, ?_, hk⟩
      simp only [hx, Option.bind_some]
    · simp at h
noncomputable def env_reals_Key (g38 : Int → Option Int)  : FEnv := { P := Go.Proofs.Try.prog, ct := fun m => if m = 38 then some (ct_reals_Canon g38) else none, N := 12, body := Go.Proofs.Try.f66.body.getD .skip, rvs := [.tmp 2], rts := [43], nin := 0, rmv := [], segs := [] }
def reals_Key.c {β : Type} (g38 : Int → Option Int)  (a0 : Int) (ret : Int → Option β) : Option β := ((g38 a0).bind fun r0 => (bif ((IntKind.wrap IntKind.u64 ((BitVec.toNat ((BitVec.ofInt (64 : Nat) r0) &&& (BitVec.ofInt (64 : Nat) (9223372036854775808 : Int)))) : Int)) != (0 : Int)) then (ret ((IntKind.wrap IntKind.u64 ((BitVec.toNat ((BitVec.ofInt (64 : Nat) (18446744073709551615 : Int)) ^^^ (BitVec.ofInt (64 : Nat) r0))) : Int)))) else (ret ((IntKind.wrap IntKind.u64 ((BitVec.toNat ((BitVec.ofInt (64 : Nat) r0) ||| (BitVec.ofInt (64 : Nat) (9223372036854775808 : Int)))) : Int))))))
theorem reals_Key.c_bind {β : Type} (g38 : Int → Option Int)  (a0 : Int) (ret : Int → Option β) : reals_Key.c g38  a0 ret = (reals_Key.c g38  a0 some).bind ret := by
  simp only [reals_Key.c, bif_bind, sum_bind, Option.bind_assoc, Option.bind_some, Option.bind_none, Option.bind_fun_some]
theorem reals_Key.ev (g38 : Int → Option Int)  (a0 : Int) : evAt (env_reals_Key g38 ) [] [0] [.v (.one (.d (.int .u64) a0))] [] some = reals_Key.c g38  a0 (fun r => some ⟨.v (.one (.d (.int .u64) r)), []⟩) := by
  kernel_rfl
def reals_Key.f (k : Nat) (a0 : Int) : Option Int := reals_Key.c (reals_Canon.f k)  a0 some
theorem reals_Key.is (g38 : Int → Option Int)  : FnIs (env_reals_Key g38 ) 66 Go.Proofs.Try.f66 := ⟨Go.Proofs.Try.func66, rfl, rfl, rfl, by decide⟩
theorem reals_Key.envok (g38 : Int → Option Int)  (h38 : CtOK Go.Proofs.Try.prog 38 (ct_reals_Canon g38)) : EnvOK (env_reals_Key g38 ).toEnv := by
  intro f c h
  simp only [env_reals_Key] at h
  split at h
  · rename_i e; subst e; cases h; exact h38
  simp at h
theorem reals_Key.ok (k : Nat) : CtOK Go.Proofs.Try.prog 66 (ct_reals_Key (reals_Key.f k)) := by
  refine ct_of_ev (E := env_reals_Key (reals_Canon.f k) ) (reals_Key.is _ ) (reals_Key.envok _  (reals_Canon.ok k)) (fun s hs => by simp [env_reals_Key] at hs) rfl ?_
  intro tvs blks res h
  simp only [ct_reals_Key] at h
  split at h
  · refine (reals_Key.ev (reals_Canon.f k)  _ ).trans ?_
    rw [reals_Key.c_bind]
    exact h
  · simp at h

/-! ### reals_Cmp: function 57 -/
def ct_reals_Cmp (g : Int → Int → Option Int) : Ct where
  nin := 0
  mv := []
  F := fun tvs blks {β} K => match tvs, blks with
    | [.v (.one (.d (.int .u64) a0)), .v (.one (.d (.int .u64) a1))], [] => (g a0 a1).bind fun r => K ⟨.v (.one (.d (.int .i64) r)), []⟩
    | _, _ => none
  legit := fun tvs blks K r h => by
    split at h
    · obtain ⟨x, hx, hk⟩ := Option.bind_eq_some_iff.1 h
      refine ⟨_, ?_, hk⟩
      simp only [hx, Option.bind_some]
    · simp at h
noncomputable def env_reals_Cmp (g66 : Int → Option Int)  : FEnv := { P := Go.Proofs.Try.prog, ct := fun m => if m = 66 then some (ct_reals_Key g66) else none, N := 19, body := Go.Proofs.Try.f57.body.getD .skip, rvs := [.tmp 4], rts := [3], nin := 0, rmv := [], segs := [] }
def reals_Cmp.c {β : Type} (g66 : Int → Option Int)  (a0 : Int) (a1 : Int) (ret : Int → Option β) : Option β := ((g66 a0).bind fun r0 => ((g66 a1).bind fun r1 => (bif (decide (r0 < r1)) then (ret ((-1 : Int))) else (bif (decide (r0 > r1)) then (ret ((1 : Int))) else (ret ((0 : Int)))))))
theorem reals_Cmp.c_bind {β : Type} (g66 : Int → Option Int)  (a0 : Int) (a1 : Int) (ret : Int → Option β) : reals_Cmp.c g66  a0 a1 ret = (reals_Cmp.c g66  a0 a1 some).bind ret := by
  simp only [reals_Cmp.c, bif_bind, sum_bind, Option.bind_assoc, Option.bind_some, Option.bind_none, Option.bind_fun_some]
theorem reals_Cmp.ev (g66 : Int → Option Int)  (a0 : Int) (a1 : Int) : evAt (env_reals_Cmp g66 ) [] [0, 1] [.v (.one (.d (.int .u64) a0)), .v (.one (.d (.int .u64) a1))] [] some = reals_Cmp.c g66  a0 a1 (fun r => some ⟨.v (.one (.d (.int .i64) r)), []⟩) := by
  kernel_rfl
def reals_Cmp.f (k : Nat) (a0 : Int) (a1 : Int) : Option Int := reals_Cmp.c (reals_Key.f k)  a0 a1 some
theorem reals_Cmp.is (g66 : Int → Option Int)  : FnIs (env_reals_Cmp g66 ) 57 Go.Proofs.Try.f57 := ⟨Go.Proofs.Try.func57, rfl, rfl, rfl, by decide⟩
theorem reals_Cmp.envok (g66 : Int → Option Int)  (h66 : CtOK Go.Proofs.Try.prog 66 (ct_reals_Key g66)) : EnvOK (env_reals_Cmp g66 ).toEnv := by
  intro f c h
  simp only [env_reals_Cmp] at h
  split at h
  · rename_i e; subst e; cases h; exact h66
  simp at h
theorem reals_Cmp.ok (k : Nat) : CtOK Go.Proofs.Try.prog 57 (ct_reals_Cmp (reals_Cmp.f k)) := by
  refine ct_of_ev (E := env_reals_Cmp (reals_Key.f k) ) (reals_Cmp.is _ ) (reals_Cmp.envok _  (reals_Key.ok k)) (fun s hs => by simp [env_reals_Cmp] at hs) rfl ?_
  intro tvs blks res h
  simp only [ct_reals_Cmp] at h
  split at h
  · refine (reals_Cmp.ev (reals_Key.f k)  _ _ ).trans ?_
    rw [reals_Cmp.c_bind]
    exact h
  · simp at h

/-! ### bytealg_abigen_runtime_cmpstring: function 73 (no body) -/
def ct_bytealg_abigen_runtime_cmpstring (g : ByteArray → ByteArray → Option Int) : Ct where
  nin := 0
  mv := []
  F := fun tvs blks {β} K => match tvs, blks with
    | [.v (.one (.d .str a0)), .v (.one (.d .str a1))], [] => (g a0 a1).bind fun r => K ⟨.v (.one (.d (.int .i64) r)), []⟩
    | _, _ => none
  legit := fun tvs blks K r h => by
    split at h
    · obtain ⟨x, hx, hk⟩ := Option.bind_eq_some_iff.1 h
      refine ⟨_, ?_, hk⟩
      simp only [hx, Option.bind_some]
    · simp at h
def bytealg_abigen_runtime_cmpstring.f (k : Nat) (a0 : ByteArray) (a1 : ByteArray) : Option Int := some (Lib.compareBytes a0.data.toList a1.data.toList)
theorem bytealg_abigen_runtime_cmpstring.ok (k : Nat) : CtOK Go.Proofs.Try.prog 73 (ct_bytealg_abigen_runtime_cmpstring (bytealg_abigen_runtime_cmpstring.f k)) := by
  refine ct_extern ?_
  intro tvs blks res h
  simp only [ct_bytealg_abigen_runtime_cmpstring] at h
  split at h
  · simp only [bytealg_abigen_runtime_cmpstring.f, Option.bind_some, Option.some.injEq] at h; subst h
    rename_i a0 a1
    refine ⟨.int .i64 (Lib.compareBytes a0.data.toList a1.data.toList), ?_, rfl, rfl⟩
    intro w S ρ H vals hm hv
    obtain ⟨v0, m0, rfl, h0, hv⟩ := All2.cons_left hv
    obtain ⟨v1, m1, rfl, h1, hv⟩ := All2.cons_left hv
    cases All2.nil_left hv
    simp only [RepTV, RepVV, RepAV, Rd, List.cons.injEq, and_true] at h0 h1
    subst h0; subst h1
    exact ⟨(run_callFunc_extern (e := Extern.BytealgCompare.compare) Go.Proofs.Try.func73 (by kernel_rfl) (by kernel_rfl) (by kernel_rfl) (by kernel_rfl) #[.string a0, .string a1] w).trans (by rw [Lib.run_compareString]; rfl), rfl⟩
  · simp at h

/-! ### bytealg_CompareString: function 67 -/
def ct_bytealg_CompareString (g : ByteArray → ByteArray → Option Int) : Ct where
  nin := 0
  mv := []
  F := fun tvs blks {β} K => match tvs, blks with
    | [.v (.one (.d .str a0)), .v (.one (.d .str a1))], [] => (g a0 a1).bind fun r => K ⟨.v (.one (.d (.int .i64) r)), []⟩
    | _, _ => none
  legit := fun tvs blks K r h => by
    split at h
    · obtain ⟨x, hx, hk⟩ := Option.bind_eq_some_iff.1 h
      refine ⟨_, ?_, hk⟩
      simp only [hx, Option.bind_some]
    · simp at h
noncomputable def env_bytealg_CompareString (g73 : ByteArray → ByteArray → Option Int)  : FEnv := { P := Go.Proofs.Try.prog, ct := fun m => if m = 73 then some (ct_bytealg_abigen_runtime_cmpstring g73) else none, N := 8, body := Go.Proofs.Try.f67.body.getD .skip, rvs := [.tmp 4], rts := [3], nin := 0, rmv := [], segs := [] }
def bytealg_CompareString.c {β : Type} (g73 : ByteArray → ByteArray → Option Int)  (a0 : ByteArray) (a1 : ByteArray) (ret : Int → Option β) : Option β := ((g73 a0 a1).bind fun r0 => (ret (r0)))
theorem bytealg_CompareString.c_bind {β : Type} (g73 : ByteArray → ByteArray → Option Int)  (a0 : ByteArray) (a1 : ByteArray) (ret : Int → Option β) : bytealg_CompareString.c g73  a0 a1 ret = (bytealg_CompareString.c g73  a0 a1 some).bind ret := by
  simp only [bytealg_CompareString.c, bif_bind, sum_bind, Option.bind_assoc, Option.bind_some, Option.bind_none, Option.bind_fun_some]
theorem bytealg_CompareString.ev (g73 : ByteArray → ByteArray → Option Int)  (a0 : ByteArray) (a1 : ByteArray) : evAt (env_bytealg_CompareString g73 ) [] [0, 1] [.v (.one (.d .str a0)), .v (.one (.d .str a1))] [] some = bytealg_CompareString.c g73  a0 a1 (fun r => some ⟨.v (.one (.d (.int .i64) r)), []⟩) := by
  kernel_rfl
def bytealg_CompareString.f (k : Nat) (a0 : ByteArray) (a1 : ByteArray) : Option Int := bytealg_CompareString.c (bytealg_abigen_runtime_cmpstring.f k)  a0 a1 some
theorem bytealg_CompareString.is (g73 : ByteArray → ByteArray → Option Int)  : FnIs (env_bytealg_CompareString g73 ) 67 Go.Proofs.Try.f67 := ⟨Go.Proofs.Try.func67, rfl, rfl, rfl, by decide⟩
theorem bytealg_CompareString.envok (g73 : ByteArray → ByteArray → Option Int)  (h73 : CtOK Go.Proofs.Try.prog 73 (ct_bytealg_abigen_runtime_cmpstring g73)) : EnvOK (env_bytealg_CompareString g73 ).toEnv := by
  intro f c h
  simp only [env_bytealg_CompareString] at h
  split at h
  · rename_i e; subst e; cases h; exact h73
  simp at h
theorem bytealg_CompareString.ok (k : Nat) : CtOK Go.Proofs.Try.prog 67 (ct_bytealg_CompareString (bytealg_CompareString.f k)) := by
  refine ct_of_ev (E := env_bytealg_CompareString (bytealg_abigen_runtime_cmpstring.f k) ) (bytealg_CompareString.is _ ) (bytealg_CompareString.envok _  (bytealg_abigen_runtime_cmpstring.ok k)) (fun s hs => by simp [env_bytealg_CompareString] at hs) rfl ?_
  intro tvs blks res h
  simp only [ct_bytealg_CompareString] at h
  split at h
  · refine (bytealg_CompareString.ev (bytealg_abigen_runtime_cmpstring.f k)  _ _ ).trans ?_
    rw [bytealg_CompareString.c_bind]
    exact h
  · simp at h

/-! ### strings_Compare: function 58 -/
def ct_strings_Compare (g : ByteArray → ByteArray → Option Int) : Ct where
  nin := 0
  mv := []
  F := fun tvs blks {β} K => match tvs, blks with
    | [.v (.one (.d .str a0)), .v (.one (.d .str a1))], [] => (g a0 a1).bind fun r => K ⟨.v (.one (.d (.int .i64) r)), []⟩
    | _, _ => none
  legit := fun tvs blks K r h => by
    split at h
    · obtain ⟨x, hx, hk⟩ := Option.bind_eq_some_iff.1 h
      refine ⟨_, ?_, hk⟩
      simp only [hx, Option.bind_some]
    · simp at h
noncomputable def env_strings_Compare (g67 : ByteArray → ByteArray → Option Int)  : FEnv := { P := Go.Proofs.Try.prog, ct := fun m => if m = 67 then some (ct_bytealg_CompareString g67) else none, N := 8, body := Go.Proofs.Try.f58.body.getD .skip, rvs := [.tmp 4], rts := [3], nin := 0, rmv := [], segs := [] }
def strings_Compare.c {β : Type} (g67 : ByteArray → ByteArray → Option Int)  (a0 : ByteArray) (a1 : ByteArray) (ret : Int → Option β) : Option β := ((g67 a0 a1).bind fun r0 => (ret (r0)))
theorem strings_Compare.c_bind {β : Type} (g67 : ByteArray → ByteArray → Option Int)  (a0 : ByteArray) (a1 : ByteArray) (ret : Int → Option β) : strings_Compare.c g67  a0 a1 ret = (strings_Compare.c g67  a0 a1 some).bind ret := by
  simp only [strings_Compare.c, bif_bind, sum_bind, Option.bind_assoc, Option.bind_some, Option.bind_none, Option.bind_fun_some]
theorem strings_Compare.ev (g67 : ByteArray → ByteArray → Option Int)  (a0 : ByteArray) (a1 : ByteArray) : evAt (env_strings_Compare g67 ) [] [0, 1] [.v (.one (.d .str a0)), .v (.one (.d .str a1))] [] some = strings_Compare.c g67  a0 a1 (fun r => some ⟨.v (.one (.d (.int .i64) r)), []⟩) := by
  kernel_rfl
def strings_Compare.f (k : Nat) (a0 : ByteArray) (a1 : ByteArray) : Option Int := strings_Compare.c (bytealg_CompareString.f k)  a0 a1 some
theorem strings_Compare.is (g67 : ByteArray → ByteArray → Option Int)  : FnIs (env_strings_Compare g67 ) 58 Go.Proofs.Try.f58 := ⟨Go.Proofs.Try.func58, rfl, rfl, rfl, by decide⟩
theorem strings_Compare.envok (g67 : ByteArray → ByteArray → Option Int)  (h67 : CtOK Go.Proofs.Try.prog 67 (ct_bytealg_CompareString g67)) : EnvOK (env_strings_Compare g67 ).toEnv := by
  intro f c h
  simp only [env_strings_Compare] at h
  split at h
  · rename_i e; subst e; cases h; exact h67
  simp at h
theorem strings_Compare.ok (k : Nat) : CtOK Go.Proofs.Try.prog 58 (ct_strings_Compare (strings_Compare.f k)) := by
  refine ct_of_ev (E := env_strings_Compare (bytealg_CompareString.f k) ) (strings_Compare.is _ ) (strings_Compare.envok _  (bytealg_CompareString.ok k)) (fun s hs => by simp [env_strings_Compare] at hs) rfl ?_
  intro tvs blks res h
  simp only [ct_strings_Compare] at h
  split at h
  · refine (strings_Compare.ev (bytealg_CompareString.f k)  _ _ ).trans ?_
    rw [strings_Compare.c_bind]
    exact h
  · simp at h

/-! ### values_Cmp: function 35 -/
def ct_values_Cmp (g : Int → Int → Int → ByteArray → Int → Int → Int → ByteArray → Option Int) : Ct where
  nin := 0
  mv := []
  F := fun tvs blks {β} K => match tvs, blks with
    | [.v (.agg [(.d (.int .i64) a0), (.d (.int .i64) a1), (.d (.int .u64) a2), (.d .str a3)]), .v (.agg [(.d (.int .i64) a4), (.d (.int .i64) a5), (.d (.int .u64) a6), (.d .str a7)])], [] => (g a0 a1 a2 a3 a4 a5 a6 a7).bind fun r => K ⟨.v (.one (.d (.int .i64) r)), []⟩
    | _, _ => none
  legit := fun tvs blks K r h => by
    split at h
    · obtain ⟨x, hx, hk⟩ := Option.bind_eq_some_iff.1 h
      refine ⟨_, ?_, hk⟩
      simp only [hx, Option.bind_some]
    · simp at h
noncomputable def env_values_Cmp (g55 : (List Int) → Option Int) (g56 : Int → Int → Option Int) (g57 : Int → Int → Option Int) (g58 : ByteArray → ByteArray → Option Int)  : FEnv := { P := Go.Proofs.Try.prog, ct := fun m => if m = 55 then some (ct_cmp_Or_int g55) else if m = 56 then some (ct_cmp_Compare_int g56) else if m = 57 then some (ct_reals_Cmp g57) else if m = 58 then some (ct_strings_Compare g58) else none, N := 27, body := Go.Proofs.Try.f35.body.getD .skip, rvs := [.tmp 4], rts := [3], nin := 0, rmv := [], segs := [] }
def values_Cmp.c {β : Type} (g55 : (List Int) → Option Int) (g56 : Int → Int → Option Int) (g57 : Int → Int → Option Int) (g58 : ByteArray → ByteArray → Option Int)  (a0 : Int) (a1 : Int) (a2 : Int) (a3 : ByteArray) (a4 : Int) (a5 : Int) (a6 : Int) (a7 : ByteArray) (ret : Int → Option β) : Option β := ((g56 a0 a4).bind fun r0 => ((g56 a1 a5).bind fun r1 => ((g57 a2 a6).bind fun r2 => ((g58 a3 a7).bind fun r3 => ((g55 [r0, r1, r2, r3]).bind fun r4 => (ret (r4)))))))
theorem values_Cmp.c_bind {β : Type} (g55 : (List Int) → Option Int) (g56 : Int → Int → Option Int) (g57 : Int → Int → Option Int) (g58 : ByteArray → ByteArray → Option Int)  (a0 : Int) (a1 : Int) (a2 : Int) (a3 : ByteArray) (a4 : Int) (a5 : Int) (a6 : Int) (a7 : ByteArray) (ret : Int → Option β) : values_Cmp.c g55 g56 g57 g58  a0 a1 a2 a3 a4 a5 a6 a7 ret = (values_Cmp.c g55 g56 g57 g58  a0 a1 a2 a3 a4 a5 a6 a7 some).bind ret := by
  simp only [values_Cmp.c, bif_bind, sum_bind, Option.bind_assoc, Option.bind_some, Option.bind_none, Option.bind_fun_some]
theorem values_Cmp.ev (g55 : (List Int) → Option Int) (g56 : Int → Int → Option Int) (g57 : Int → Int → Option Int) (g58 : ByteArray → ByteArray → Option Int)  (a0 : Int) (a1 : Int) (a2 : Int) (a3 : ByteArray) (a4 : Int) (a5 : Int) (a6 : Int) (a7 : ByteArray) : evAt (env_values_Cmp g55 g56 g57 g58 ) [] [0, 1] [.v (.agg [(.d (.int .i64) a0), (.d (.int .i64) a1), (.d (.int .u64) a2), (.d .str a3)]), .v (.agg [(.d (.int .i64) a4), (.d (.int .i64) a5), (.d (.int .u64) a6), (.d .str a7)])] [] some = values_Cmp.c g55 g56 g57 g58  a0 a1 a2 a3 a4 a5 a6 a7 (fun r => some ⟨.v (.one (.d (.int .i64) r)), []⟩) := by
  kernel_rfl
def values_Cmp.f (k : Nat) (a0 : Int) (a1 : Int) (a2 : Int) (a3 : ByteArray) (a4 : Int) (a5 : Int) (a6 : Int) (a7 : ByteArray) : Option Int := values_Cmp.c (cmp_Or_int.f k) (cmp_Compare_int.f k) (reals_Cmp.f k) (strings_Compare.f k)  a0 a1 a2 a3 a4 a5 a6 a7 some
theorem values_Cmp.is (g55 : (List Int) → Option Int) (g56 : Int → Int → Option Int) (g57 : Int → Int → Option Int) (g58 : ByteArray → ByteArray → Option Int)  : FnIs (env_values_Cmp g55 g56 g57 g58 ) 35 Go.Proofs.Try.f35 := ⟨Go.Proofs.Try.func35, rfl, rfl, rfl, by decide⟩
theorem values_Cmp.envok (g55 : (List Int) → Option Int) (g56 : Int → Int → Option Int) (g57 : Int → Int → Option Int) (g58 : ByteArray → ByteArray → Option Int)  (h55 : CtOK Go.Proofs.Try.prog 55 (ct_cmp_Or_int g55)) (h56 : CtOK Go.Proofs.Try.prog 56 (ct_cmp_Compare_int g56)) (h57 : CtOK Go.Proofs.Try.prog 57 (ct_reals_Cmp g57)) (h58 : CtOK Go.Proofs.Try.prog 58 (ct_strings_Compare g58)) : EnvOK (env_values_Cmp g55 g56 g57 g58 ).toEnv := by
  intro f c h
  simp only [env_values_Cmp] at h
  split at h
  · rename_i e; subst e; cases h; exact h55
  split at h
  · rename_i e; subst e; cases h; exact h56
  split at h
  · rename_i e; subst e; cases h; exact h57
  split at h
  · rename_i e; subst e; cases h; exact h58
  simp at h
theorem values_Cmp.ok (k : Nat) : CtOK Go.Proofs.Try.prog 35 (ct_values_Cmp (values_Cmp.f k)) := by
  refine ct_of_ev (E := env_values_Cmp (cmp_Or_int.f k) (cmp_Compare_int.f k) (reals_Cmp.f k) (strings_Compare.f k) ) (values_Cmp.is _ _ _ _ ) (values_Cmp.envok _ _ _ _  (cmp_Or_int.ok k) (cmp_Compare_int.ok k) (reals_Cmp.ok k) (strings_Compare.ok k)) (fun s hs => by simp [env_values_Cmp] at hs) rfl ?_
  intro tvs blks res h
  simp only [ct_values_Cmp] at h
  split at h
  · refine (values_Cmp.ev (cmp_Or_int.f k) (cmp_Compare_int.f k) (reals_Cmp.f k) (strings_Compare.f k)  _ _ _ _ _ _ _ _ ).trans ?_
    rw [values_Cmp.c_bind]
    exact h
  · simp at h

/-! ### rows_Cmp_1: function 34 -/
def ct_rows_Cmp_1 (g : Int → Int → Int → ByteArray → Int → Int → Int → ByteArray → Option Bool) : Ct where
  nin := 0
  mv := []
  F := fun tvs blks {β} K => match tvs, blks with
    | [.v (.agg [(.d (.int .i64) a0), (.d (.int .i64) a1), (.d (.int .u64) a2), (.d .str a3)]), .v (.agg [(.d (.int .i64) a4), (.d (.int .i64) a5), (.d (.int .u64) a6), (.d .str a7)])], [] => (g a0 a1 a2 a3 a4 a5 a6 a7).bind fun r => K ⟨.v (.one (.d .bool r)), []⟩
    | _, _ => none
  legit := fun tvs blks K r h => by
    split at h
    · obtain ⟨x, hx, hk⟩ := Option.bind_eq_some_iff.1 h
      refine ⟨_, ?_, hk⟩
      simp only [hx, Option.bind_some]
    · simp at h
noncomputable def env_rows_Cmp_1 (g35 : Int → Int → Int → ByteArray → Int → Int → Int → ByteArray → Option Int)  : FEnv := { P := Go.Proofs.Try.prog, ct := fun m => if m = 35 then some (ct_values_Cmp g35) else none, N := 9, body := Go.Proofs.Try.f34.body.getD .skip, rvs := [.tmp 4], rts := [4], nin := 0, rmv := [], segs := [] }
def rows_Cmp_1.c {β : Type} (g35 : Int → Int → Int → ByteArray → Int → Int → Int → ByteArray → Option Int)  (a0 : Int) (a1 : Int) (a2 : Int) (a3 : ByteArray) (a4 : Int) (a5 : Int) (a6 : Int) (a7 : ByteArray) (ret : Bool → Option β) : Option β := ((g35 a0 a1 a2 a3 a4 a5 a6 a7).bind fun r0 => (ret ((r0 == (0 : Int)))))
theorem rows_Cmp_1.c_bind {β : Type} (g35 : Int → Int → Int → ByteArray → Int → Int → Int → ByteArray → Option Int)  (a0 : Int) (a1 : Int) (a2 : Int) (a3 : ByteArray) (a4 : Int) (a5 : Int) (a6 : Int) (a7 : ByteArray) (ret : Bool → Option β) : rows_Cmp_1.c g35  a0 a1 a2 a3 a4 a5 a6 a7 ret = (rows_Cmp_1.c g35  a0 a1 a2 a3 a4 a5 a6 a7 some).bind ret := by
  simp only [rows_Cmp_1.c, bif_bind, sum_bind, Option.bind_assoc, Option.bind_some, Option.bind_none, Option.bind_fun_some]
theorem rows_Cmp_1.ev (g35 : Int → Int → Int → ByteArray → Int → Int → Int → ByteArray → Option Int)  (a0 : Int) (a1 : Int) (a2 : Int) (a3 : ByteArray) (a4 : Int) (a5 : Int) (a6 : Int) (a7 : ByteArray) : evAt (env_rows_Cmp_1 g35 ) [] [0, 1] [.v (.agg [(.d (.int .i64) a0), (.d (.int .i64) a1), (.d (.int .u64) a2), (.d .str a3)]), .v (.agg [(.d (.int .i64) a4), (.d (.int .i64) a5), (.d (.int .u64) a6), (.d .str a7)])] [] some = rows_Cmp_1.c g35  a0 a1 a2 a3 a4 a5 a6 a7 (fun r => some ⟨.v (.one (.d .bool r)), []⟩) := by
  kernel_rfl
def rows_Cmp_1.f (k : Nat) (a0 : Int) (a1 : Int) (a2 : Int) (a3 : ByteArray) (a4 : Int) (a5 : Int) (a6 : Int) (a7 : ByteArray) : Option Bool := rows_Cmp_1.c (values_Cmp.f k)  a0 a1 a2 a3 a4 a5 a6 a7 some
theorem rows_Cmp_1.is (g35 : Int → Int → Int → ByteArray → Int → Int → Int → ByteArray → Option Int)  : FnIs (env_rows_Cmp_1 g35 ) 34 Go.Proofs.Try.f34 := ⟨Go.Proofs.Try.func34, rfl, rfl, rfl, by decide⟩
theorem rows_Cmp_1.envok (g35 : Int → Int → Int → ByteArray → Int → Int → Int → ByteArray → Option Int)  (h35 : CtOK Go.Proofs.Try.prog 35 (ct_values_Cmp g35)) : EnvOK (env_rows_Cmp_1 g35 ).toEnv := by
  intro f c h
  simp only [env_rows_Cmp_1] at h
  split at h
  · rename_i e; subst e; cases h; exact h35
  simp at h
theorem rows_Cmp_1.ok (k : Nat) : CtOK Go.Proofs.Try.prog 34 (ct_rows_Cmp_1 (rows_Cmp_1.f k)) := by
  refine ct_of_ev (E := env_rows_Cmp_1 (values_Cmp.f k) ) (rows_Cmp_1.is _ ) (rows_Cmp_1.envok _  (values_Cmp.ok k)) (fun s hs => by simp [env_rows_Cmp_1] at hs) rfl ?_
  intro tvs blks res h
  simp only [ct_rows_Cmp_1] at h
  split at h
  · refine (rows_Cmp_1.ev (values_Cmp.f k)  _ _ _ _ _ _ _ _ ).trans ?_
    rw [rows_Cmp_1.c_bind]
    exact h
  · simp at h
end Go.Proofs.Ytlclhjdfbkenfaa.Aev
