/- By a program of this session (AEV): functions of the program as plain functions, and that the machine does what they say. -/
import Derived.Test.YtpcojbnoadnknaaAevW
import Derived.Test.YtpcojbnoadnknaaProg
import Derived.Laws.Externs
import Derived.Lib.Bytealg
import Derived.Test.YtpcojbnoadnknaaF16
namespace Go.Proofs.Ytpcojbnoadnknaa.Aev
set_option linter.unusedVariables false
set_option linter.unusedSimpArgs false
set_option maxRecDepth 100000
set_option maxHeartbeats 4000000
open Go
/-! ### bytealg_CompareString: function 56 -/
def ct_bytealg_CompareString (g : ByteArray → ByteArray → Option Int) : Ct where
  nin := 0
  mv := []
  F := fun tvs blks {β} K => match tvs, blks with
    | [.v (.one (.d .str a0)), .v (.one (.d .str a1))], [] => (g a0 a1).bind fun r => K ⟨.v (.one (.d (.int .i64) r)), []⟩
    | _, _ => none
  legit := fun tvs blks K r h => by
    split at h
    · obtain ⟨x, hx, hk⟩ := Option.bind_eq_some_iff.1 h
      refine ⟨_, ?_, hk⟩
      simp only [hx, Option.bind_some]
    · simp at h
noncomputable def env_bytealg_CompareString (g62 : ByteArray → ByteArray → Option Int)  : FEnv := { P := Go.Proofs.Try.prog, ct := fun m => if m = 62 then some (ct_bytealg_abigen_runtime_cmpstring g62) else none, N := 8, body := Go.Proofs.Try.f56.body.getD .skip, rvs := [.tmp 4], rts := [3], nin := 0, rmv := [], segs := [] }
def bytealg_CompareString.c {β : Type} (g62 : ByteArray → ByteArray → Option Int)  (a0 : ByteArray) (a1 : ByteArray) (ret : Int → Option β) : Option β := ((g62 a0 a1).bind fun r0 => (ret (r0)))
theorem bytealg_CompareString.c_bind {β : Type} (g62 : ByteArray → ByteArray → Option Int)  (a0 : ByteArray) (a1 : ByteArray) (ret : Int → Option β) : bytealg_CompareString.c g62  a0 a1 ret = (bytealg_CompareString.c g62  a0 a1 some).bind ret := by
  simp only [bytealg_CompareString.c, bif_bind, sum_bind, Option.bind_assoc, Option.bind_some, Option.bind_none, Option.bind_fun_some]
theorem bytealg_CompareString.ev (g62 : ByteArray → ByteArray → Option Int)  (a0 : ByteArray) (a1 : ByteArray) : evAt (env_bytealg_CompareString g62 ) [] [0, 1] [.v (.one (.d .str a0)), .v (.one (.d .str a1))] [] some = bytealg_CompareString.c g62  a0 a1 (fun r => some ⟨.v (.one (.d (.int .i64) r)), []⟩) := by
  kernel_rfl
def bytealg_CompareString.f (k : Nat) (a0 : ByteArray) (a1 : ByteArray) : Option Int := bytealg_CompareString.c (bytealg_abigen_runtime_cmpstring.f k)  a0 a1 some
theorem bytealg_CompareString.is (g62 : ByteArray → ByteArray → Option Int)  : FnIs (env_bytealg_CompareString g62 ) 56 Go.Proofs.Try.f56 := ⟨Go.Proofs.Try.func56, rfl, rfl, rfl, by decide⟩
theorem bytealg_CompareString.envok (g62 : ByteArray → ByteArray → Option Int)  (h62 : CtOK Go.Proofs.Try.prog 62 (ct_bytealg_abigen_runtime_cmpstring g62)) : EnvOK (env_bytealg_CompareString g62 ).toEnv := by
  intro f c h
  simp only [env_bytealg_CompareString] at h
  split at h
  · rename_i e; subst e; cases h; exact h62
  simp at h
theorem bytealg_CompareString.ok (k : Nat) : CtOK Go.Proofs.Try.prog 56 (ct_bytealg_CompareString (bytealg_CompareString.f k)) := by
  refine ct_of_ev (E := env_bytealg_CompareString (bytealg_abigen_runtime_cmpstring.f k) ) (bytealg_CompareString.is _ ) (bytealg_CompareString.envok _  (bytealg_abigen_runtime_cmpstring.ok k)) (fun s hs => by simp [env_bytealg_CompareString] at hs) rfl ?_
  intro tvs blks res h
  simp only [ct_bytealg_CompareString] at h
  split at h
  · refine (bytealg_CompareString.ev (bytealg_abigen_runtime_cmpstring.f k)  _ _ ).trans ?_
    rw [bytealg_CompareString.c_bind]
    exact h
  · simp at h

/-! ### strings_Compare: function 44 -/
def ct_strings_Compare (g : ByteArray → ByteArray → Option Int) : Ct where
  nin := 0
  mv := []
  F := fun tvs blks {β} K => match tvs, blks with
    | [.v (.one (.d .str a0)), .v (.one (.d .str a1))], [] => (g a0 a1).bind fun r => K ⟨.v (.one (.d (.int .i64) r)), []⟩
    | _, _ => none
  legit := fun tvs blks K r h => by
    split at h
    · obtain ⟨x, hx, hk⟩ := Option.bind_eq_some_iff.1 h
      refine ⟨_, ?_, hk⟩
      simp only [hx, Option.bind_some]
    · simp at h
noncomputable def env_strings_Compare (g56 : ByteArray → ByteArray → Option Int)  : FEnv := { P := Go.Proofs.Try.prog, ct := fun m => if m = 56 then some (ct_bytealg_CompareString g56) else none, N := 8, body := Go.Proofs.Try.f44.body.getD .skip, rvs := [.tmp 4], rts := [3], nin := 0, rmv := [], segs := [] }
def strings_Compare.c {β : Type} (g56 : ByteArray → ByteArray → Option Int)  (a0 : ByteArray) (a1 : ByteArray) (ret : Int → Option β) : Option β := ((g56 a0 a1).bind fun r0 => (ret (r0)))
theorem strings_Compare.c_bind {β : Type} (g56 : ByteArray → ByteArray → Option Int)  (a0 : ByteArray) (a1 : ByteArray) (ret : Int → Option β) : strings_Compare.c g56  a0 a1 ret = (strings_Compare.c g56  a0 a1 some).bind ret := by
  simp only [strings_Compare.c, bif_bind, sum_bind, Option.bind_assoc, Option.bind_some, Option.bind_none, Option.bind_fun_some]
theorem strings_Compare.ev (g56 : ByteArray → ByteArray → Option Int)  (a0 : ByteArray) (a1 : ByteArray) : evAt (env_strings_Compare g56 ) [] [0, 1] [.v (.one (.d .str a0)), .v (.one (.d .str a1))] [] some = strings_Compare.c g56  a0 a1 (fun r => some ⟨.v (.one (.d (.int .i64) r)), []⟩) := by
  kernel_rfl
def strings_Compare.f (k : Nat) (a0 : ByteArray) (a1 : ByteArray) : Option Int := strings_Compare.c (bytealg_CompareString.f k)  a0 a1 some
theorem strings_Compare.is (g56 : ByteArray → ByteArray → Option Int)  : FnIs (env_strings_Compare g56 ) 44 Go.Proofs.Try.f44 := ⟨Go.Proofs.Try.func44, rfl, rfl, rfl, by decide⟩
theorem strings_Compare.envok (g56 : ByteArray → ByteArray → Option Int)  (h56 : CtOK Go.Proofs.Try.prog 56 (ct_bytealg_CompareString g56)) : EnvOK (env_strings_Compare g56 ).toEnv := by
  intro f c h
  simp only [env_strings_Compare] at h
  split at h
  · rename_i e; subst e; cases h; exact h56
  simp at h
theorem strings_Compare.ok (k : Nat) : CtOK Go.Proofs.Try.prog 44 (ct_strings_Compare (strings_Compare.f k)) := by
  refine ct_of_ev (E := env_strings_Compare (bytealg_CompareString.f k) ) (strings_Compare.is _ ) (strings_Compare.envok _  (bytealg_CompareString.ok k)) (fun s hs => by simp [env_strings_Compare] at hs) rfl ?_
  intro tvs blks res h
  simp only [ct_strings_Compare] at h
  split at h
  · refine (strings_Compare.ev (bytealg_CompareString.f k)  _ _ ).trans ?_
    rw [strings_Compare.c_bind]
    exact h
  · simp at h

/-! ### values_Cmp: function 24 -/
def ct_values_Cmp (g : Int → Int → Int → ByteArray → Int → Int → Int → ByteArray → Option Int) : Ct where
  nin := 0
  mv := []
  F := fun tvs blks {β} K => match tvs, blks with
    | [.v (.agg [(.d (.int .i64) a0), (.d (.int .i64) a1), (.d (.int .u64) a2), (.d .str a3)]), .v (.agg [(.d (.int .i64) a4), (.d (.int .i64) a5), (.d (.int .u64) a6), (.d .str a7)])], [] => (g a0 a1 a2 a3 a4 a5 a6 a7).bind fun r => K ⟨.v (.one (.d (.int .i64) r)), []⟩
    | _, _ => none
  legit := fun tvs blks K r h => by
    split at h
    · obtain ⟨x, hx, hk⟩ := Option.bind_eq_some_iff.1 h
      refine ⟨_, ?_, hk⟩
      simp only [hx, Option.bind_some]
    · simp at h
noncomputable def env_values_Cmp (g41 : (List Int) → Option Int) (g42 : Int → Int → Option Int) (g43 : Int → Int → Option Int) (g44 : ByteArray → ByteArray → Option Int)  : FEnv := { P := Go.Proofs.Try.prog, ct := fun m => if m = 41 then some (ct_cmp_Or_int g41) else if m = 42 then some (ct_cmp_Compare_int g42) else if m = 43 then some (ct_reals_Cmp g43) else if m = 44 then some (ct_strings_Compare g44) else none, N := 27, body := Go.Proofs.Try.f24.body.getD .skip, rvs := [.tmp 4], rts := [3], nin := 0, rmv := [], segs := [] }
def values_Cmp.c {β : Type} (g41 : (List Int) → Option Int) (g42 : Int → Int → Option Int) (g43 : Int → Int → Option Int) (g44 : ByteArray → ByteArray → Option Int)  (a0 : Int) (a1 : Int) (a2 : Int) (a3 : ByteArray) (a4 : Int) (a5 : Int) (a6 : Int) (a7 : ByteArray) (ret : Int → Option β) : Option β := ((g42 a0 a4).bind fun r0 => ((g42 a1 a5).bind fun r1 => ((g43 a2 a6).bind fun r2 => ((g44 a3 a7).bind fun r3 => ((g41 [r0, r1, r2, r3]).bind fun r4 => (ret (r4)))))))
theorem values_Cmp.c_bind {β : Type} (g41 : (List Int) → Option Int) (g42 : Int → Int → Option Int) (g43 : Int → Int → Option Int) (g44 : ByteArray → ByteArray → Option Int)  (a0 : Int) (a1 : Int) (a2 : Int) (a3 : ByteArray) (a4 : Int) (a5 : Int) (a6 : Int) (a7 : ByteArray) (ret : Int → Option β) : values_Cmp.c g41 g42 g43 g44  a0 a1 a2 a3 a4 a5 a6 a7 ret = (values_Cmp.c g41 g42 g43 g44  a0 a1 a2 a3 a4 a5 a6 a7 some).bind ret := by
  simp only [values_Cmp.c, bif_bind, sum_bind, Option.bind_assoc, Option.bind_some, Option.bind_none, Option.bind_fun_some]
theorem values_Cmp.ev (g41 : (List Int) → Option Int) (g42 : Int → Int → Option Int) (g43 : Int → Int → Option Int) (g44 : ByteArray → ByteArray → Option Int)  (a0 : Int) (a1 : Int) (a2 : Int) (a3 : ByteArray) (a4 : Int) (a5 : Int) (a6 : Int) (a7 : ByteArray) : evAt (env_values_Cmp g41 g42 g43 g44 ) [] [0, 1] [.v (.agg [(.d (.int .i64) a0), (.d (.int .i64) a1), (.d (.int .u64) a2), (.d .str a3)]), .v (.agg [(.d (.int .i64) a4), (.d (.int .i64) a5), (.d (.int .u64) a6), (.d .str a7)])] [] some = values_Cmp.c g41 g42 g43 g44  a0 a1 a2 a3 a4 a5 a6 a7 (fun r => some ⟨.v (.one (.d (.int .i64) r)), []⟩) := by
  kernel_rfl
def values_Cmp.f (k : Nat) (a0 : Int) (a1 : Int) (a2 : Int) (a3 : ByteArray) (a4 : Int) (a5 : Int) (a6 : Int) (a7 : ByteArray) : Option Int := values_Cmp.c (cmp_Or_int.f k) (cmp_Compare_int.f k) (reals_Cmp.f k) (strings_Compare.f k)  a0 a1 a2 a3 a4 a5 a6 a7 some
theorem values_Cmp.is (g41 : (List Int) → Option Int) (g42 : Int → Int → Option Int) (g43 : Int → Int → Option Int) (g44 : ByteArray → ByteArray → Option Int)  : FnIs (env_values_Cmp g41 g42 g43 g44 ) 24 Go.Proofs.Try.f24 := ⟨Go.Proofs.Try.func24, rfl, rfl, rfl, by decide⟩
theorem values_Cmp.envok (g41 : (List Int) → Option Int) (g42 : Int → Int → Option Int) (g43 : Int → Int → Option Int) (g44 : ByteArray → ByteArray → Option Int)  (h41 : CtOK Go.Proofs.Try.prog 41 (ct_cmp_Or_int g41)) (h42 : CtOK Go.Proofs.Try.prog 42 (ct_cmp_Compare_int g42)) (h43 : CtOK Go.Proofs.Try.prog 43 (ct_reals_Cmp g43)) (h44 : CtOK Go.Proofs.Try.prog 44 (ct_strings_Compare g44)) : EnvOK (env_values_Cmp g41 g42 g43 g44 ).toEnv := by
  intro f c h
  simp only [env_values_Cmp] at h
  split at h
  · rename_i e; subst e; cases h; exact h41
  split at h
  · rename_i e; subst e; cases h; exact h42
  split at h
  · rename_i e; subst e; cases h; exact h43
  split at h
  · rename_i e; subst e; cases h; exact h44
  simp at h
theorem values_Cmp.ok (k : Nat) : CtOK Go.Proofs.Try.prog 24 (ct_values_Cmp (values_Cmp.f k)) := by
  refine ct_of_ev (E := env_values_Cmp (cmp_Or_int.f k) (cmp_Compare_int.f k) (reals_Cmp.f k) (strings_Compare.f k) ) (values_Cmp.is _ _ _ _ ) (values_Cmp.envok _ _ _ _  (cmp_Or_int.ok k) (cmp_Compare_int.ok k) (reals_Cmp.ok k) (strings_Compare.ok k)) (fun s hs => by simp [env_values_Cmp] at hs) rfl ?_
  intro tvs blks res h
  simp only [ct_values_Cmp] at h
  split at h
  · refine (values_Cmp.ev (cmp_Or_int.f k) (cmp_Compare_int.f k) (reals_Cmp.f k) (strings_Compare.f k)  _ _ _ _ _ _ _ _ ).trans ?_
    rw [values_Cmp.c_bind]
    exact h
  · simp at h
end Go.Proofs.Ytpcojbnoadnknaa.Aev
