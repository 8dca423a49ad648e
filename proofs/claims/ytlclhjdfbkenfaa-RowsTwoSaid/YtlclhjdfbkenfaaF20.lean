/- By a program of this session (AEV): functions of the program as plain functions, and that the machine does what they say. -/
import Derived.Test.YtlclhjdfbkenfaaAevW
import Derived.Test.YtlclhjdfbkenfaaProg
import Derived.Laws.Externs
import Derived.Lib.Bytealg
import Derived.Test.YtlclhjdfbkenfaaF5
import Derived.Test.YtlclhjdfbkenfaaF7
import Derived.Test.YtlclhjdfbkenfaaF8
namespace Go.Proofs.Ytlclhjdfbkenfaa.Aev
set_option linter.unusedVariables false
set_option linter.unusedSimpArgs false
set_option maxRecDepth 100000
set_option maxHeartbeats 4000000
open Go
/-! ### rows_Same: function 17 -/
def ct_rows_Same (g : (List (Int × (Int × (Int × (ByteArray × Unit))))) → (List (Int × (Int × (Int × (ByteArray × Unit))))) → Option Bool) : Ct where
  nin := 0
  mv := []
  F := fun tvs blks {β} K => match tvs, blks with
    | [.v (.one (.d (.sl (.pair (.int .i64) (.pair (.int .i64) (.pair (.int .u64) (.pair .str .unit))))) a0)), .v (.one (.d (.sl (.pair (.int .i64) (.pair (.int .i64) (.pair (.int .u64) (.pair .str .unit))))) a1))], [] => (g a0 a1).bind fun r => K ⟨.v (.one (.d .bool r)), []⟩
    | _, _ => none
  legit := fun tvs blks K r h => by
    split at h
    · obtain ⟨x, hx, hk⟩ := Option.bind_eq_some_iff.1 h
      refine ⟨_, ?_, hk⟩
      simp only [hx, Option.bind_some]
    · simp at h
noncomputable def env_rows_Same (g32_0 : (List (Int × (Int × (Int × (ByteArray × Unit))))) → (List (Int × (Int × (Int × (ByteArray × Unit))))) → Option Int) (g32_1 : (List (Int × (Int × (Int × (ByteArray × Unit))))) → (List (Int × (Int × (Int × (ByteArray × Unit))))) → Option Int) (g33 : Int → Int → Int → ByteArray → Int → Int → Int → ByteArray → Option Bool)  : FEnv := { P := Go.Proofs.Try.prog, ct := fun m => if m = 32 then some (ct_api_Value g32_0 g32_1) else if m = 33 then some (ct_values_Same g33) else none, N := 18, body := Go.Proofs.Try.f17.body.getD .skip, rvs := [.tmp 4], rts := [4], nin := 0, rmv := [], segs := [] }
def rows_Same.c {β : Type} (g32_0 : (List (Int × (Int × (Int × (ByteArray × Unit))))) → (List (Int × (Int × (Int × (ByteArray × Unit))))) → Option Int) (g32_1 : (List (Int × (Int × (Int × (ByteArray × Unit))))) → (List (Int × (Int × (Int × (ByteArray × Unit))))) → Option Int) (g33 : Int → Int → Int → ByteArray → Int → Int → Int → ByteArray → Option Bool)  (a0 : List (Int × (Int × (Int × (ByteArray × Unit))))) (a1 : List (Int × (Int × (Int × (ByteArray × Unit))))) (ret : Bool → Option β) : Option β := (bif (((List.length a0) : Int) == ((List.length a1) : Int)) then ((g32_0 a0 a1).bind fun r0 => (ret ((r0 == ((List.length a0) : Int))))) else (ret (false)))
theorem rows_Same.c_bind {β : Type} (g32_0 : (List (Int × (Int × (Int × (ByteArray × Unit))))) → (List (Int × (Int × (Int × (ByteArray × Unit))))) → Option Int) (g32_1 : (List (Int × (Int × (Int × (ByteArray × Unit))))) → (List (Int × (Int × (Int × (ByteArray × Unit))))) → Option Int) (g33 : Int → Int → Int → ByteArray → Int → Int → Int → ByteArray → Option Bool)  (a0 : List (Int × (Int × (Int × (ByteArray × Unit))))) (a1 : List (Int × (Int × (Int × (ByteArray × Unit))))) (ret : Bool → Option β) : rows_Same.c g32_0 g32_1 g33  a0 a1 ret = (rows_Same.c g32_0 g32_1 g33  a0 a1 some).bind ret := by
  simp only [rows_Same.c, bif_bind, sum_bind, Option.bind_assoc, Option.bind_some, Option.bind_none, Option.bind_fun_some]
theorem rows_Same.ev (g32_0 : (List (Int × (Int × (Int × (ByteArray × Unit))))) → (List (Int × (Int × (Int × (ByteArray × Unit))))) → Option Int) (g32_1 : (List (Int × (Int × (Int × (ByteArray × Unit))))) → (List (Int × (Int × (Int × (ByteArray × Unit))))) → Option Int) (g33 : Int → Int → Int → ByteArray → Int → Int → Int → ByteArray → Option Bool)  (a0 : List (Int × (Int × (Int × (ByteArray × Unit))))) (a1 : List (Int × (Int × (Int × (ByteArray × Unit))))) : evAt (env_rows_Same g32_0 g32_1 g33 ) [] [0, 1] [.v (.one (.d (.sl (.pair (.int .i64) (.pair (.int .i64) (.pair (.int .u64) (.pair .str .unit))))) a0)), .v (.one (.d (.sl (.pair (.int .i64) (.pair (.int .i64) (.pair (.int .u64) (.pair .str .unit))))) a1))] [] some = rows_Same.c g32_0 g32_1 g33  a0 a1 (fun r => some ⟨.v (.one (.d .bool r)), []⟩) := by
  kernel_rfl
def rows_Same.f (k : Nat) (a0 : List (Int × (Int × (Int × (ByteArray × Unit))))) (a1 : List (Int × (Int × (Int × (ByteArray × Unit))))) : Option Bool := rows_Same.c (api_Value.f0 k) (api_Value.f1 k) (values_Same.f k)  a0 a1 some
theorem rows_Same.is (g32_0 : (List (Int × (Int × (Int × (ByteArray × Unit))))) → (List (Int × (Int × (Int × (ByteArray × Unit))))) → Option Int) (g32_1 : (List (Int × (Int × (Int × (ByteArray × Unit))))) → (List (Int × (Int × (Int × (ByteArray × Unit))))) → Option Int) (g33 : Int → Int → Int → ByteArray → Int → Int → Int → ByteArray → Option Bool)  : FnIs (env_rows_Same g32_0 g32_1 g33 ) 17 Go.Proofs.Try.f17 := ⟨Go.Proofs.Try.func17, rfl, rfl, rfl, by decide⟩
theorem rows_Same.envok (g32_0 : (List (Int × (Int × (Int × (ByteArray × Unit))))) → (List (Int × (Int × (Int × (ByteArray × Unit))))) → Option Int) (g32_1 : (List (Int × (Int × (Int × (ByteArray × Unit))))) → (List (Int × (Int × (Int × (ByteArray × Unit))))) → Option Int) (g33 : Int → Int → Int → ByteArray → Int → Int → Int → ByteArray → Option Bool)  (h32 : CtOK Go.Proofs.Try.prog 32 (ct_api_Value g32_0 g32_1)) (h33 : CtOK Go.Proofs.Try.prog 33 (ct_values_Same g33)) : EnvOK (env_rows_Same g32_0 g32_1 g33 ).toEnv := by
  intro f c h
  simp only [env_rows_Same] at h
  split at h
  · rename_i e; subst e; cases h; exact h32
  split at h
  · rename_i e; subst e; cases h; exact h33
  simp at h
theorem rows_Same.ok (k : Nat) : CtOK Go.Proofs.Try.prog 17 (ct_rows_Same (rows_Same.f k)) := by
  refine ct_of_ev (E := env_rows_Same (api_Value.f0 k) (api_Value.f1 k) (values_Same.f k) ) (rows_Same.is _ _ _ ) (rows_Same.envok _ _ _  (api_Value.ok k) (values_Same.ok k)) (fun s hs => by simp [env_rows_Same] at hs) rfl ?_
  intro tvs blks res h
  simp only [ct_rows_Same] at h
  split at h
  · refine (rows_Same.ev (api_Value.f0 k) (api_Value.f1 k) (values_Same.f k)  _ _ ).trans ?_
    rw [rows_Same.c_bind]
    exact h
  · simp at h

/-! ### transomref04_order: function 60 -/
def ct_transomref04_order (g : Bool → Option Int) : Ct where
  nin := 0
  mv := []
  F := fun tvs blks {β} K => match tvs, blks with
    | [.v (.one (.d .bool a0))], [] => (g a0).bind fun r => K ⟨.v (.one (.d (.int .i64) r)), []⟩
    | _, _ => none
  legit := fun tvs blks K r h => by
    split at h
    · obtain ⟨x, hx, hk⟩ := Option.bind_eq_some_iff.1 h
      refine ⟨_, ?_, hk⟩
      simp only [hx, Option.bind_some]
    · simp at h
noncomputable def env_transomref04_order   : FEnv := { P := Go.Proofs.Try.prog, ct := fun m => none, N := 4, body := Go.Proofs.Try.f60.body.getD .skip, rvs := [.tmp 2], rts := [3], nin := 0, rmv := [], segs := [] }
def transomref04_order.c {β : Type}   (a0 : Bool) (ret : Int → Option β) : Option β := (bif a0 then (ret ((-1 : Int))) else (ret ((1 : Int))))
theorem transomref04_order.c_bind {β : Type}   (a0 : Bool) (ret : Int → Option β) : transomref04_order.c   a0 ret = (transomref04_order.c   a0 some).bind ret := by
  simp only [transomref04_order.c, bif_bind, sum_bind, Option.bind_assoc, Option.bind_some, Option.bind_none, Option.bind_fun_some]
theorem transomref04_order.ev   (a0 : Bool) : evAt (env_transomref04_order  ) [] [0] [.v (.one (.d .bool a0))] [] some = transomref04_order.c   a0 (fun r => some ⟨.v (.one (.d (.int .i64) r)), []⟩) := by
  kernel_rfl
def transomref04_order.f (k : Nat) (a0 : Bool) : Option Int := transomref04_order.c   a0 some
theorem transomref04_order.is   : FnIs (env_transomref04_order  ) 60 Go.Proofs.Try.f60 := ⟨Go.Proofs.Try.func60, rfl, rfl, rfl, by decide⟩
theorem transomref04_order.envok    : EnvOK (env_transomref04_order  ).toEnv := by
  intro f c h
  simp only [env_transomref04_order] at h
  simp at h
theorem transomref04_order.ok (k : Nat) : CtOK Go.Proofs.Try.prog 60 (ct_transomref04_order (transomref04_order.f k)) := by
  refine ct_of_ev (E := env_transomref04_order  ) (transomref04_order.is ) (transomref04_order.envok  ) (fun s hs => by simp [env_transomref04_order] at hs) rfl ?_
  intro tvs blks res h
  simp only [ct_transomref04_order] at h
  split at h
  · refine (transomref04_order.ev   _ ).trans ?_
    rw [transomref04_order.c_bind]
    exact h
  · simp at h

/-! ### transomref02_Key: function 74 -/
def ct_transomref02_Key (g : Int → Option Int) : Ct where
  nin := 0
  mv := []
  F := fun tvs blks {β} K => match tvs, blks with
    | [.v (.one (.d (.int .u64) a0))], [] => (g a0).bind fun r => K ⟨.v (.one (.d (.int .u64) r)), []⟩
    | _, _ => none
  legit := fun tvs blks K r h => by
    split at h
    · obtain ⟨x, hx, hk⟩ := Option.bind_eq_some_iff.1 h
      refine ⟨_, ?_, hk⟩
      simp only [hx, Option.bind_some]
    · simp at h
noncomputable def env_transomref02_Key (g42 : Int → Option Int)  : FEnv := { P := Go.Proofs.Try.prog, ct := fun m => if m = 42 then some (ct_transomref02_Canon g42) else none, N := 12, body := Go.Proofs.Try.f74.body.getD .skip, rvs := [.tmp 2], rts := [43], nin := 0, rmv := [], segs := [] }
def transomref02_Key.c {β : Type} (g42 : Int → Option Int)  (a0 : Int) (ret : Int → Option β) : Option β := ((g42 a0).bind fun r0 => (bif ((Int.fdiv r0 (9223372036854775808 : Int)) == (0 : Int)) then (ret ((IntKind.wrap IntKind.u64 ((BitVec.toNat ((BitVec.ofInt (64 : Nat) r0) ||| (BitVec.ofInt (64 : Nat) (9223372036854775808 : Int)))) : Int)))) else (ret ((IntKind.wrap IntKind.u64 ((BitVec.toNat ((BitVec.ofInt (64 : Nat) (18446744073709551615 : Int)) ^^^ (BitVec.ofInt (64 : Nat) r0))) : Int))))))
theorem transomref02_Key.c_bind {β : Type} (g42 : Int → Option Int)  (a0 : Int) (ret : Int → Option β) : transomref02_Key.c g42  a0 ret = (transomref02_Key.c g42  a0 some).bind ret := by
  simp only [transomref02_Key.c, bif_bind, sum_bind, Option.bind_assoc, Option.bind_some, Option.bind_none, Option.bind_fun_some]
theorem transomref02_Key.ev (g42 : Int → Option Int)  (a0 : Int) : evAt (env_transomref02_Key g42 ) [] [0] [.v (.one (.d (.int .u64) a0))] [] some = transomref02_Key.c g42  a0 (fun r => some ⟨.v (.one (.d (.int .u64) r)), []⟩) := by
  kernel_rfl
def transomref02_Key.f (k : Nat) (a0 : Int) : Option Int := transomref02_Key.c (transomref02_Canon.f k)  a0 some
theorem transomref02_Key.is (g42 : Int → Option Int)  : FnIs (env_transomref02_Key g42 ) 74 Go.Proofs.Try.f74 := ⟨Go.Proofs.Try.func74, rfl, rfl, rfl, by decide⟩
theorem transomref02_Key.envok (g42 : Int → Option Int)  (h42 : CtOK Go.Proofs.Try.prog 42 (ct_transomref02_Canon g42)) : EnvOK (env_transomref02_Key g42 ).toEnv := by
  intro f c h
  simp only [env_transomref02_Key] at h
  split at h
  · rename_i e; subst e; cases h; exact h42
  simp at h
theorem transomref02_Key.ok (k : Nat) : CtOK Go.Proofs.Try.prog 74 (ct_transomref02_Key (transomref02_Key.f k)) := by
  refine ct_of_ev (E := env_transomref02_Key (transomref02_Canon.f k) ) (transomref02_Key.is _ ) (transomref02_Key.envok _  (transomref02_Canon.ok k)) (fun s hs => by simp [env_transomref02_Key] at hs) rfl ?_
  intro tvs blks res h
  simp only [ct_transomref02_Key] at h
  split at h
  · refine (transomref02_Key.ev (transomref02_Canon.f k)  _ ).trans ?_
    rw [transomref02_Key.c_bind]
    exact h
  · simp at h

/-! ### transomref02_Cmp: function 68 -/
def ct_transomref02_Cmp (g : Int → Int → Option Int) : Ct where
  nin := 0
  mv := []
  F := fun tvs blks {β} K => match tvs, blks with
    | [.v (.one (.d (.int .u64) a0)), .v (.one (.d (.int .u64) a1))], [] => (g a0 a1).bind fun r => K ⟨.v (.one (.d (.int .i64) r)), []⟩
    | _, _ => none
  legit := fun tvs blks K r h => by
    split at h
    · obtain ⟨x, hx, hk⟩ := Option.bind_eq_some_iff.1 h
      refine ⟨_, ?_, hk⟩
      simp only [hx, Option.bind_some]
    · simp at h
noncomputable def env_transomref02_Cmp (g74 : Int → Option Int)  : FEnv := { P := Go.Proofs.Try.prog, ct := fun m => if m = 74 then some (ct_transomref02_Key g74) else none, N := 17, body := Go.Proofs.Try.f68.body.getD .skip, rvs := [.tmp 4], rts := [3], nin := 0, rmv := [], segs := [] }
def transomref02_Cmp.c {β : Type} (g74 : Int → Option Int)  (a0 : Int) (a1 : Int) (ret : Int → Option β) : Option β := ((g74 a0).bind fun r0 => ((g74 a1).bind fun r1 => (bif (decide (r0 < r1)) then (ret ((-1 : Int))) else ((g74 a0).bind fun r2 => ((g74 a1).bind fun r3 => (bif (decide (r2 > r3)) then (ret ((1 : Int))) else (ret ((0 : Int)))))))))
theorem transomref02_Cmp.c_bind {β : Type} (g74 : Int → Option Int)  (a0 : Int) (a1 : Int) (ret : Int → Option β) : transomref02_Cmp.c g74  a0 a1 ret = (transomref02_Cmp.c g74  a0 a1 some).bind ret := by
  simp only [transomref02_Cmp.c, bif_bind, sum_bind, Option.bind_assoc, Option.bind_some, Option.bind_none, Option.bind_fun_some]
theorem transomref02_Cmp.ev (g74 : Int → Option Int)  (a0 : Int) (a1 : Int) : evAt (env_transomref02_Cmp g74 ) [] [0, 1] [.v (.one (.d (.int .u64) a0)), .v (.one (.d (.int .u64) a1))] [] some = transomref02_Cmp.c g74  a0 a1 (fun r => some ⟨.v (.one (.d (.int .i64) r)), []⟩) := by
  kernel_rfl
def transomref02_Cmp.f (k : Nat) (a0 : Int) (a1 : Int) : Option Int := transomref02_Cmp.c (transomref02_Key.f k)  a0 a1 some
theorem transomref02_Cmp.is (g74 : Int → Option Int)  : FnIs (env_transomref02_Cmp g74 ) 68 Go.Proofs.Try.f68 := ⟨Go.Proofs.Try.func68, rfl, rfl, rfl, by decide⟩
theorem transomref02_Cmp.envok (g74 : Int → Option Int)  (h74 : CtOK Go.Proofs.Try.prog 74 (ct_transomref02_Key g74)) : EnvOK (env_transomref02_Cmp g74 ).toEnv := by
  intro f c h
  simp only [env_transomref02_Cmp] at h
  split at h
  · rename_i e; subst e; cases h; exact h74
  simp at h
theorem transomref02_Cmp.ok (k : Nat) : CtOK Go.Proofs.Try.prog 68 (ct_transomref02_Cmp (transomref02_Cmp.f k)) := by
  refine ct_of_ev (E := env_transomref02_Cmp (transomref02_Key.f k) ) (transomref02_Cmp.is _ ) (transomref02_Cmp.envok _  (transomref02_Key.ok k)) (fun s hs => by simp [env_transomref02_Cmp] at hs) rfl ?_
  intro tvs blks res h
  simp only [ct_transomref02_Cmp] at h
  split at h
  · refine (transomref02_Cmp.ev (transomref02_Key.f k)  _ _ ).trans ?_
    rw [transomref02_Cmp.c_bind]
    exact h
  · simp at h

/-! ### transomref04_Cmp: function 59 -/
def ct_transomref04_Cmp (g : Int → Int → Int → ByteArray → Int → Int → Int → ByteArray → Option Int) : Ct where
  nin := 0
  mv := []
  F := fun tvs blks {β} K => match tvs, blks with
    | [.v (.agg [(.d (.int .i64) a0), (.d (.int .i64) a1), (.d (.int .u64) a2), (.d .str a3)]), .v (.agg [(.d (.int .i64) a4), (.d (.int .i64) a5), (.d (.int .u64) a6), (.d .str a7)])], [] => (g a0 a1 a2 a3 a4 a5 a6 a7).bind fun r => K ⟨.v (.one (.d (.int .i64) r)), []⟩
    | _, _ => none
  legit := fun tvs blks K r h => by
    split at h
    · obtain ⟨x, hx, hk⟩ := Option.bind_eq_some_iff.1 h
      refine ⟨_, ?_, hk⟩
      simp only [hx, Option.bind_some]
    · simp at h
noncomputable def env_transomref04_Cmp (g60 : Bool → Option Int) (g68 : Int → Int → Option Int)  : FEnv := { P := Go.Proofs.Try.prog, ct := fun m => if m = 60 then some (ct_transomref04_order g60) else if m = 68 then some (ct_transomref02_Cmp g68) else none, N := 47, body := Go.Proofs.Try.f59.body.getD .skip, rvs := [.tmp 4], rts := [3], nin := 0, rmv := [], segs := [] }
def transomref04_Cmp.c {β : Type} (g60 : Bool → Option Int) (g68 : Int → Int → Option Int)  (a0 : Int) (a1 : Int) (a2 : Int) (a3 : ByteArray) (a4 : Int) (a5 : Int) (a6 : Int) (a7 : ByteArray) (ret : Int → Option β) : Option β := (bif (a0 != a4) then ((g60 (decide (a0 < a4))).bind fun r0 => (ret (r0))) else (bif (a1 != a5) then ((g60 (decide (a1 < a5))).bind fun r1 => (ret (r1))) else ((g68 a2 a6).bind fun r2 => (bif (r2 != (0 : Int)) then (ret (r2)) else (bif (!((ByteArray.toList a3) == (ByteArray.toList a7))) then ((g60 (Op.bytesLess (ByteArray.toList a3) (ByteArray.toList a7))).bind fun r3 => (ret (r3))) else (ret ((0 : Int))))))))
theorem transomref04_Cmp.c_bind {β : Type} (g60 : Bool → Option Int) (g68 : Int → Int → Option Int)  (a0 : Int) (a1 : Int) (a2 : Int) (a3 : ByteArray) (a4 : Int) (a5 : Int) (a6 : Int) (a7 : ByteArray) (ret : Int → Option β) : transomref04_Cmp.c g60 g68  a0 a1 a2 a3 a4 a5 a6 a7 ret = (transomref04_Cmp.c g60 g68  a0 a1 a2 a3 a4 a5 a6 a7 some).bind ret := by
  simp only [transomref04_Cmp.c, bif_bind, sum_bind, Option.bind_assoc, Option.bind_some, Option.bind_none, Option.bind_fun_some]
theorem transomref04_Cmp.ev (g60 : Bool → Option Int) (g68 : Int → Int → Option Int)  (a0 : Int) (a1 : Int) (a2 : Int) (a3 : ByteArray) (a4 : Int) (a5 : Int) (a6 : Int) (a7 : ByteArray) : evAt (env_transomref04_Cmp g60 g68 ) [] [0, 1] [.v (.agg [(.d (.int .i64) a0), (.d (.int .i64) a1), (.d (.int .u64) a2), (.d .str a3)]), .v (.agg [(.d (.int .i64) a4), (.d (.int .i64) a5), (.d (.int .u64) a6), (.d .str a7)])] [] some = transomref04_Cmp.c g60 g68  a0 a1 a2 a3 a4 a5 a6 a7 (fun r => some ⟨.v (.one (.d (.int .i64) r)), []⟩) := by
  kernel_rfl
def transomref04_Cmp.f (k : Nat) (a0 : Int) (a1 : Int) (a2 : Int) (a3 : ByteArray) (a4 : Int) (a5 : Int) (a6 : Int) (a7 : ByteArray) : Option Int := transomref04_Cmp.c (transomref04_order.f k) (transomref02_Cmp.f k)  a0 a1 a2 a3 a4 a5 a6 a7 some
theorem transomref04_Cmp.is (g60 : Bool → Option Int) (g68 : Int → Int → Option Int)  : FnIs (env_transomref04_Cmp g60 g68 ) 59 Go.Proofs.Try.f59 := ⟨Go.Proofs.Try.func59, rfl, rfl, rfl, by decide⟩
theorem transomref04_Cmp.envok (g60 : Bool → Option Int) (g68 : Int → Int → Option Int)  (h60 : CtOK Go.Proofs.Try.prog 60 (ct_transomref04_order g60)) (h68 : CtOK Go.Proofs.Try.prog 68 (ct_transomref02_Cmp g68)) : EnvOK (env_transomref04_Cmp g60 g68 ).toEnv := by
  intro f c h
  simp only [env_transomref04_Cmp] at h
  split at h
  · rename_i e; subst e; cases h; exact h60
  split at h
  · rename_i e; subst e; cases h; exact h68
  simp at h
theorem transomref04_Cmp.ok (k : Nat) : CtOK Go.Proofs.Try.prog 59 (ct_transomref04_Cmp (transomref04_Cmp.f k)) := by
  refine ct_of_ev (E := env_transomref04_Cmp (transomref04_order.f k) (transomref02_Cmp.f k) ) (transomref04_Cmp.is _ _ ) (transomref04_Cmp.envok _ _  (transomref04_order.ok k) (transomref02_Cmp.ok k)) (fun s hs => by simp [env_transomref04_Cmp] at hs) rfl ?_
  intro tvs blks res h
  simp only [ct_transomref04_Cmp] at h
  split at h
  · refine (transomref04_Cmp.ev (transomref04_order.f k) (transomref02_Cmp.f k)  _ _ _ _ _ _ _ _ ).trans ?_
    rw [transomref04_Cmp.c_bind]
    exact h
  · simp at h

/-! ### transomref04_CmpRow: function 36 -/
def ct_transomref04_CmpRow (g : (List (Int × (Int × (Int × (ByteArray × Unit))))) → (List (Int × (Int × (Int × (ByteArray × Unit))))) → Option Int) : Ct where
  nin := 0
  mv := []
  F := fun tvs blks {β} K => match tvs, blks with
    | [.v (.one (.d (.sl (.pair (.int .i64) (.pair (.int .i64) (.pair (.int .u64) (.pair .str .unit))))) a0)), .v (.one (.d (.sl (.pair (.int .i64) (.pair (.int .i64) (.pair (.int .u64) (.pair .str .unit))))) a1))], [] => (g a0 a1).bind fun r => K ⟨.v (.one (.d (.int .i64) r)), []⟩
    | _, _ => none
  legit := fun tvs blks K r h => by
    split at h
    · obtain ⟨x, hx, hk⟩ := Option.bind_eq_some_iff.1 h
      refine ⟨_, ?_, hk⟩
      simp only [hx, Option.bind_some]
    · simp at h
def seg_transomref04_CmpRow_0 (g : (List (Int × (Int × (Int × (ByteArray × Unit))))) → (List (Int × (Int × (Int × (ByteArray × Unit))))) → Int → Option Int) : Seg where
  path := [4, 1, 0, 1]
  prep := []
  keep := [0, 1, 5]
  F := fun tvs blks {β} K => match tvs, blks with
    | [.v (.one (.d (.sl (.pair (.int .i64) (.pair (.int .i64) (.pair (.int .u64) (.pair .str .unit))))) x0)), .v (.one (.d (.sl (.pair (.int .i64) (.pair (.int .i64) (.pair (.int .u64) (.pair .str .unit))))) x1)), .v (.one (.d (.int .i64) x2))], [] => (g x0 x1 x2).bind fun r => K ⟨.v (.one (.d (.int .i64) r)), []⟩
    | _, _ => none
  legit := fun tvs blks K r h => by
    split at h
    · obtain ⟨x, hx, hk⟩ := Option.bind_eq_some_iff.1 h
      refine ⟨_, ?_, hk⟩
      simp only [hx, Option.bind_some]
    · simp at h
def seg_transomref04_CmpRow_1 (g : (List (Int × (Int × (Int × (ByteArray × Unit))))) → (List (Int × (Int × (Int × (ByteArray × Unit))))) → Int → Bool → Option Int) : Seg where
  path := [1, 0, 5, 4, 1, 0, 1]
  prep := []
  keep := [0, 1, 5, 16]
  F := fun tvs blks {β} K => match tvs, blks with
    | [.v (.one (.d (.sl (.pair (.int .i64) (.pair (.int .i64) (.pair (.int .u64) (.pair .str .unit))))) x0)), .v (.one (.d (.sl (.pair (.int .i64) (.pair (.int .i64) (.pair (.int .u64) (.pair .str .unit))))) x1)), .v (.one (.d (.int .i64) x2)), .v (.one (.d .bool x3))], [] => (g x0 x1 x2 x3).bind fun r => K ⟨.v (.one (.d (.int .i64) r)), []⟩
    | _, _ => none
  legit := fun tvs blks K r h => by
    split at h
    · obtain ⟨x, hx, hk⟩ := Option.bind_eq_some_iff.1 h
      refine ⟨_, ?_, hk⟩
      simp only [hx, Option.bind_some]
    · simp at h
def seg_transomref04_CmpRow_2 (g : (List (Int × (Int × (Int × (ByteArray × Unit))))) → (List (Int × (Int × (Int × (ByteArray × Unit))))) → Int → Option Int) : Seg where
  path := [1, 5, 4, 1, 0, 1]
  prep := []
  keep := [0, 1, 5]
  F := fun tvs blks {β} K => match tvs, blks with
    | [.v (.one (.d (.sl (.pair (.int .i64) (.pair (.int .i64) (.pair (.int .u64) (.pair .str .unit))))) x0)), .v (.one (.d (.sl (.pair (.int .i64) (.pair (.int .i64) (.pair (.int .u64) (.pair .str .unit))))) x1)), .v (.one (.d (.int .i64) x2))], [] => (g x0 x1 x2).bind fun r => K ⟨.v (.one (.d (.int .i64) r)), []⟩
    | _, _ => none
  legit := fun tvs blks K r h => by
    split at h
    · obtain ⟨x, hx, hk⟩ := Option.bind_eq_some_iff.1 h
      refine ⟨_, ?_, hk⟩
      simp only [hx, Option.bind_some]
    · simp at h
noncomputable def env_transomref04_CmpRow (g59 : Int → Int → Int → ByteArray → Int → Int → Int → ByteArray → Option Int) (g60 : Bool → Option Int) (s0 : (List (Int × (Int × (Int × (ByteArray × Unit))))) → (List (Int × (Int × (Int × (ByteArray × Unit))))) → Int → Option Int) (s1 : (List (Int × (Int × (Int × (ByteArray × Unit))))) → (List (Int × (Int × (Int × (ByteArray × Unit))))) → Int → Bool → Option Int) (s2 : (List (Int × (Int × (Int × (ByteArray × Unit))))) → (List (Int × (Int × (Int × (ByteArray × Unit))))) → Int → Option Int) : FEnv := { P := Go.Proofs.Try.prog, ct := fun m => if m = 59 then some (ct_transomref04_Cmp g59) else if m = 60 then some (ct_transomref04_order g60) else none, N := 42, body := Go.Proofs.Try.f36.body.getD .skip, rvs := [.tmp 4], rts := [3], nin := 0, rmv := [], segs := [seg_transomref04_CmpRow_0 s0, seg_transomref04_CmpRow_1 s1, seg_transomref04_CmpRow_2 s2] }
def transomref04_CmpRow.c {β : Type} (g59 : Int → Int → Int → ByteArray → Int → Int → Int → ByteArray → Option Int) (g60 : Bool → Option Int) (s0 : (List (Int × (Int × (Int × (ByteArray × Unit))))) → (List (Int × (Int × (Int × (ByteArray × Unit))))) → Int → Option Int) (s1 : (List (Int × (Int × (Int × (ByteArray × Unit))))) → (List (Int × (Int × (Int × (ByteArray × Unit))))) → Int → Bool → Option Int) (s2 : (List (Int × (Int × (Int × (ByteArray × Unit))))) → (List (Int × (Int × (Int × (ByteArray × Unit))))) → Int → Option Int) (a0 : List (Int × (Int × (Int × (ByteArray × Unit))))) (a1 : List (Int × (Int × (Int × (ByteArray × Unit))))) (ret : Int → Option β) : Option β := ((s0 a0 a1 (0 : Int)).bind ret)
def transomref04_CmpRow.s0c {β : Type} (g59 : Int → Int → Int → ByteArray → Int → Int → Int → ByteArray → Option Int) (g60 : Bool → Option Int) (s0 : (List (Int × (Int × (Int × (ByteArray × Unit))))) → (List (Int × (Int × (Int × (ByteArray × Unit))))) → Int → Option Int) (s1 : (List (Int × (Int × (Int × (ByteArray × Unit))))) → (List (Int × (Int × (Int × (ByteArray × Unit))))) → Int → Bool → Option Int) (s2 : (List (Int × (Int × (Int × (ByteArray × Unit))))) → (List (Int × (Int × (Int × (ByteArray × Unit))))) → Int → Option Int) (x0 : List (Int × (Int × (Int × (ByteArray × Unit))))) (x1 : List (Int × (Int × (Int × (ByteArray × Unit))))) (x2 : Int) (ret : Int → Option β) : Option β := (bif (decide (x2 < ((List.length x0) : Int))) then ((s1 x0 x1 x2 (decide (x2 < ((List.length x1) : Int)))).bind ret) else ((s1 x0 x1 x2 false).bind ret))
def transomref04_CmpRow.s1c {β : Type} (g59 : Int → Int → Int → ByteArray → Int → Int → Int → ByteArray → Option Int) (g60 : Bool → Option Int) (s0 : (List (Int × (Int × (Int × (ByteArray × Unit))))) → (List (Int × (Int × (Int × (ByteArray × Unit))))) → Int → Option Int) (s1 : (List (Int × (Int × (Int × (ByteArray × Unit))))) → (List (Int × (Int × (Int × (ByteArray × Unit))))) → Int → Bool → Option Int) (s2 : (List (Int × (Int × (Int × (ByteArray × Unit))))) → (List (Int × (Int × (Int × (ByteArray × Unit))))) → Int → Option Int) (x0 : List (Int × (Int × (Int × (ByteArray × Unit))))) (x1 : List (Int × (Int × (Int × (ByteArray × Unit))))) (x2 : Int) (x3 : Bool) (ret : Int → Option β) : Option β := (bif x3 then ((s2 x0 x1 x2).bind ret) else (bif (((List.length x0) : Int) != ((List.length x1) : Int)) then ((g60 (decide (((List.length x0) : Int) < ((List.length x1) : Int)))).bind fun r0 => (ret (r0))) else (ret ((0 : Int)))))
def transomref04_CmpRow.s2c {β : Type} (g59 : Int → Int → Int → ByteArray → Int → Int → Int → ByteArray → Option Int) (g60 : Bool → Option Int) (s0 : (List (Int × (Int × (Int × (ByteArray × Unit))))) → (List (Int × (Int × (Int × (ByteArray × Unit))))) → Int → Option Int) (s1 : (List (Int × (Int × (Int × (ByteArray × Unit))))) → (List (Int × (Int × (Int × (ByteArray × Unit))))) → Int → Bool → Option Int) (s2 : (List (Int × (Int × (Int × (ByteArray × Unit))))) → (List (Int × (Int × (Int × (ByteArray × Unit))))) → Int → Option Int) (x0 : List (Int × (Int × (Int × (ByteArray × Unit))))) (x1 : List (Int × (Int × (Int × (ByteArray × Unit))))) (x2 : Int) (ret : Int → Option β) : Option β := (bif ((decide ((0 : Int) ≤ x2)) && (decide (x2 < ((List.length x0) : Int)))) then (bif ((decide ((0 : Int) ≤ x2)) && (decide (x2 < ((List.length x1) : Int)))) then ((g59 (elem (Ty.pair (Ty.int IntKind.i64) (Ty.pair (Ty.int IntKind.i64) (Ty.pair (Ty.int IntKind.u64) (Ty.pair Ty.str Ty.unit)))) x0 x2).1 (elem (Ty.pair (Ty.int IntKind.i64) (Ty.pair (Ty.int IntKind.i64) (Ty.pair (Ty.int IntKind.u64) (Ty.pair Ty.str Ty.unit)))) x0 x2).2.1 (elem (Ty.pair (Ty.int IntKind.i64) (Ty.pair (Ty.int IntKind.i64) (Ty.pair (Ty.int IntKind.u64) (Ty.pair Ty.str Ty.unit)))) x0 x2).2.2.1 (elem (Ty.pair (Ty.int IntKind.i64) (Ty.pair (Ty.int IntKind.i64) (Ty.pair (Ty.int IntKind.u64) (Ty.pair Ty.str Ty.unit)))) x0 x2).2.2.2.1 (elem (Ty.pair (Ty.int IntKind.i64) (Ty.pair (Ty.int IntKind.i64) (Ty.pair (Ty.int IntKind.u64) (Ty.pair Ty.str Ty.unit)))) x1 x2).1 (elem (Ty.pair (Ty.int IntKind.i64) (Ty.pair (Ty.int IntKind.i64) (Ty.pair (Ty.int IntKind.u64) (Ty.pair Ty.str Ty.unit)))) x1 x2).2.1 (elem (Ty.pair (Ty.int IntKind.i64) (Ty.pair (Ty.int IntKind.i64) (Ty.pair (Ty.int IntKind.u64) (Ty.pair Ty.str Ty.unit)))) x1 x2).2.2.1 (elem (Ty.pair (Ty.int IntKind.i64) (Ty.pair (Ty.int IntKind.i64) (Ty.pair (Ty.int IntKind.u64) (Ty.pair Ty.str Ty.unit)))) x1 x2).2.2.2.1).bind fun r0 => (bif (r0 != (0 : Int)) then (ret (r0)) else ((s0 x0 x1 (IntKind.wrap IntKind.i64 (x2 + (1 : Int)))).bind ret))) else none) else none)
theorem transomref04_CmpRow.c_bind {β : Type} (g59 : Int → Int → Int → ByteArray → Int → Int → Int → ByteArray → Option Int) (g60 : Bool → Option Int) (s0 : (List (Int × (Int × (Int × (ByteArray × Unit))))) → (List (Int × (Int × (Int × (ByteArray × Unit))))) → Int → Option Int) (s1 : (List (Int × (Int × (Int × (ByteArray × Unit))))) → (List (Int × (Int × (Int × (ByteArray × Unit))))) → Int → Bool → Option Int) (s2 : (List (Int × (Int × (Int × (ByteArray × Unit))))) → (List (Int × (Int × (Int × (ByteArray × Unit))))) → Int → Option Int) (a0 : List (Int × (Int × (Int × (ByteArray × Unit))))) (a1 : List (Int × (Int × (Int × (ByteArray × Unit))))) (ret : Int → Option β) : transomref04_CmpRow.c g59 g60 s0 s1 s2 a0 a1 ret = (transomref04_CmpRow.c g59 g60 s0 s1 s2 a0 a1 some).bind ret := by
  simp only [transomref04_CmpRow.c, bif_bind, sum_bind, Option.bind_assoc, Option.bind_some, Option.bind_none, Option.bind_fun_some]
theorem transomref04_CmpRow.s0c_bind {β : Type} (g59 : Int → Int → Int → ByteArray → Int → Int → Int → ByteArray → Option Int) (g60 : Bool → Option Int) (s0 : (List (Int × (Int × (Int × (ByteArray × Unit))))) → (List (Int × (Int × (Int × (ByteArray × Unit))))) → Int → Option Int) (s1 : (List (Int × (Int × (Int × (ByteArray × Unit))))) → (List (Int × (Int × (Int × (ByteArray × Unit))))) → Int → Bool → Option Int) (s2 : (List (Int × (Int × (Int × (ByteArray × Unit))))) → (List (Int × (Int × (Int × (ByteArray × Unit))))) → Int → Option Int) (x0 : List (Int × (Int × (Int × (ByteArray × Unit))))) (x1 : List (Int × (Int × (Int × (ByteArray × Unit))))) (x2 : Int) (ret : Int → Option β) : transomref04_CmpRow.s0c g59 g60 s0 s1 s2 x0 x1 x2 ret = (transomref04_CmpRow.s0c g59 g60 s0 s1 s2 x0 x1 x2 some).bind ret := by
  simp only [transomref04_CmpRow.s0c, bif_bind, sum_bind, Option.bind_assoc, Option.bind_some, Option.bind_none, Option.bind_fun_some]
theorem transomref04_CmpRow.s1c_bind {β : Type} (g59 : Int → Int → Int → ByteArray → Int → Int → Int → ByteArray → Option Int) (g60 : Bool → Option Int) (s0 : (List (Int × (Int × (Int × (ByteArray × Unit))))) → (List (Int × (Int × (Int × (ByteArray × Unit))))) → Int → Option Int) (s1 : (List (Int × (Int × (Int × (ByteArray × Unit))))) → (List (Int × (Int × (Int × (ByteArray × Unit))))) → Int → Bool → Option Int) (s2 : (List (Int × (Int × (Int × (ByteArray × Unit))))) → (List (Int × (Int × (Int × (ByteArray × Unit))))) → Int → Option Int) (x0 : List (Int × (Int × (Int × (ByteArray × Unit))))) (x1 : List (Int × (Int × (Int × (ByteArray × Unit))))) (x2 : Int) (x3 : Bool) (ret : Int → Option β) : transomref04_CmpRow.s1c g59 g60 s0 s1 s2 x0 x1 x2 x3 ret = (transomref04_CmpRow.s1c g59 g60 s0 s1 s2 x0 x1 x2 x3 some).bind ret := by
  simp only [transomref04_CmpRow.s1c, bif_bind, sum_bind, Option.bind_assoc, Option.bind_some, Option.bind_none, Option.bind_fun_some]
theorem transomref04_CmpRow.s2c_bind {β : Type} (g59 : Int → Int → Int → ByteArray → Int → Int → Int → ByteArray → Option Int) (g60 : Bool → Option Int) (s0 : (List (Int × (Int × (Int × (ByteArray × Unit))))) → (List (Int × (Int × (Int × (ByteArray × Unit))))) → Int → Option Int) (s1 : (List (Int × (Int × (Int × (ByteArray × Unit))))) → (List (Int × (Int × (Int × (ByteArray × Unit))))) → Int → Bool → Option Int) (s2 : (List (Int × (Int × (Int × (ByteArray × Unit))))) → (List (Int × (Int × (Int × (ByteArray × Unit))))) → Int → Option Int) (x0 : List (Int × (Int × (Int × (ByteArray × Unit))))) (x1 : List (Int × (Int × (Int × (ByteArray × Unit))))) (x2 : Int) (ret : Int → Option β) : transomref04_CmpRow.s2c g59 g60 s0 s1 s2 x0 x1 x2 ret = (transomref04_CmpRow.s2c g59 g60 s0 s1 s2 x0 x1 x2 some).bind ret := by
  simp only [transomref04_CmpRow.s2c, bif_bind, sum_bind, Option.bind_assoc, Option.bind_some, Option.bind_none, Option.bind_fun_some]
theorem transomref04_CmpRow.ev (g59 : Int → Int → Int → ByteArray → Int → Int → Int → ByteArray → Option Int) (g60 : Bool → Option Int) (s0 : (List (Int × (Int × (Int × (ByteArray × Unit))))) → (List (Int × (Int × (Int × (ByteArray × Unit))))) → Int → Option Int) (s1 : (List (Int × (Int × (Int × (ByteArray × Unit))))) → (List (Int × (Int × (Int × (ByteArray × Unit))))) → Int → Bool → Option Int) (s2 : (List (Int × (Int × (Int × (ByteArray × Unit))))) → (List (Int × (Int × (Int × (ByteArray × Unit))))) → Int → Option Int) (a0 : List (Int × (Int × (Int × (ByteArray × Unit))))) (a1 : List (Int × (Int × (Int × (ByteArray × Unit))))) : evAt (env_transomref04_CmpRow g59 g60 s0 s1 s2) [] [0, 1] [.v (.one (.d (.sl (.pair (.int .i64) (.pair (.int .i64) (.pair (.int .u64) (.pair .str .unit))))) a0)), .v (.one (.d (.sl (.pair (.int .i64) (.pair (.int .i64) (.pair (.int .u64) (.pair .str .unit))))) a1))] [] some = transomref04_CmpRow.c g59 g60 s0 s1 s2 a0 a1 (fun r => some ⟨.v (.one (.d (.int .i64) r)), []⟩) := by
  kernel_rfl
theorem transomref04_CmpRow.s0_ev (g59 : Int → Int → Int → ByteArray → Int → Int → Int → ByteArray → Option Int) (g60 : Bool → Option Int) (s0 : (List (Int × (Int × (Int × (ByteArray × Unit))))) → (List (Int × (Int × (Int × (ByteArray × Unit))))) → Int → Option Int) (s1 : (List (Int × (Int × (Int × (ByteArray × Unit))))) → (List (Int × (Int × (Int × (ByteArray × Unit))))) → Int → Bool → Option Int) (s2 : (List (Int × (Int × (Int × (ByteArray × Unit))))) → (List (Int × (Int × (Int × (ByteArray × Unit))))) → Int → Option Int) (x0 : List (Int × (Int × (Int × (ByteArray × Unit))))) (x1 : List (Int × (Int × (Int × (ByteArray × Unit))))) (x2 : Int) : evAt (env_transomref04_CmpRow g59 g60 s0 s1 s2) [4, 1, 0, 1] [0, 1, 5] [.v (.one (.d (.sl (.pair (.int .i64) (.pair (.int .i64) (.pair (.int .u64) (.pair .str .unit))))) x0)), .v (.one (.d (.sl (.pair (.int .i64) (.pair (.int .i64) (.pair (.int .u64) (.pair .str .unit))))) x1)), .v (.one (.d (.int .i64) x2))] [] some = transomref04_CmpRow.s0c g59 g60 s0 s1 s2 x0 x1 x2 (fun r => some ⟨.v (.one (.d (.int .i64) r)), []⟩) := by
  kernel_rfl
theorem transomref04_CmpRow.s1_ev (g59 : Int → Int → Int → ByteArray → Int → Int → Int → ByteArray → Option Int) (g60 : Bool → Option Int) (s0 : (List (Int × (Int × (Int × (ByteArray × Unit))))) → (List (Int × (Int × (Int × (ByteArray × Unit))))) → Int → Option Int) (s1 : (List (Int × (Int × (Int × (ByteArray × Unit))))) → (List (Int × (Int × (Int × (ByteArray × Unit))))) → Int → Bool → Option Int) (s2 : (List (Int × (Int × (Int × (ByteArray × Unit))))) → (List (Int × (Int × (Int × (ByteArray × Unit))))) → Int → Option Int) (x0 : List (Int × (Int × (Int × (ByteArray × Unit))))) (x1 : List (Int × (Int × (Int × (ByteArray × Unit))))) (x2 : Int) (x3 : Bool) : evAt (env_transomref04_CmpRow g59 g60 s0 s1 s2) [1, 0, 5, 4, 1, 0, 1] [0, 1, 5, 16] [.v (.one (.d (.sl (.pair (.int .i64) (.pair (.int .i64) (.pair (.int .u64) (.pair .str .unit))))) x0)), .v (.one (.d (.sl (.pair (.int .i64) (.pair (.int .i64) (.pair (.int .u64) (.pair .str .unit))))) x1)), .v (.one (.d (.int .i64) x2)), .v (.one (.d .bool x3))] [] some = transomref04_CmpRow.s1c g59 g60 s0 s1 s2 x0 x1 x2 x3 (fun r => some ⟨.v (.one (.d (.int .i64) r)), []⟩) := by
  kernel_rfl
theorem transomref04_CmpRow.s2_ev (g59 : Int → Int → Int → ByteArray → Int → Int → Int → ByteArray → Option Int) (g60 : Bool → Option Int) (s0 : (List (Int × (Int × (Int × (ByteArray × Unit))))) → (List (Int × (Int × (Int × (ByteArray × Unit))))) → Int → Option Int) (s1 : (List (Int × (Int × (Int × (ByteArray × Unit))))) → (List (Int × (Int × (Int × (ByteArray × Unit))))) → Int → Bool → Option Int) (s2 : (List (Int × (Int × (Int × (ByteArray × Unit))))) → (List (Int × (Int × (Int × (ByteArray × Unit))))) → Int → Option Int) (x0 : List (Int × (Int × (Int × (ByteArray × Unit))))) (x1 : List (Int × (Int × (Int × (ByteArray × Unit))))) (x2 : Int) : evAt (env_transomref04_CmpRow g59 g60 s0 s1 s2) [1, 5, 4, 1, 0, 1] [0, 1, 5] [.v (.one (.d (.sl (.pair (.int .i64) (.pair (.int .i64) (.pair (.int .u64) (.pair .str .unit))))) x0)), .v (.one (.d (.sl (.pair (.int .i64) (.pair (.int .i64) (.pair (.int .u64) (.pair .str .unit))))) x1)), .v (.one (.d (.int .i64) x2))] [] some = transomref04_CmpRow.s2c g59 g60 s0 s1 s2 x0 x1 x2 (fun r => some ⟨.v (.one (.d (.int .i64) r)), []⟩) := by
  kernel_rfl
mutual
def transomref04_CmpRow.s0 : Nat → (List (Int × (Int × (Int × (ByteArray × Unit))))) → (List (Int × (Int × (Int × (ByteArray × Unit))))) → Int → Option Int
  | 0, _, _, _ => none
  | k + 1, x0, x1, x2 => transomref04_CmpRow.s0c (transomref04_Cmp.f k) (transomref04_order.f k) (transomref04_CmpRow.s0 k) (transomref04_CmpRow.s1 k) (transomref04_CmpRow.s2 k) x0 x1 x2 some
def transomref04_CmpRow.s1 : Nat → (List (Int × (Int × (Int × (ByteArray × Unit))))) → (List (Int × (Int × (Int × (ByteArray × Unit))))) → Int → Bool → Option Int
  | 0, _, _, _, _ => none
  | k + 1, x0, x1, x2, x3 => transomref04_CmpRow.s1c (transomref04_Cmp.f k) (transomref04_order.f k) (transomref04_CmpRow.s0 k) (transomref04_CmpRow.s1 k) (transomref04_CmpRow.s2 k) x0 x1 x2 x3 some
def transomref04_CmpRow.s2 : Nat → (List (Int × (Int × (Int × (ByteArray × Unit))))) → (List (Int × (Int × (Int × (ByteArray × Unit))))) → Int → Option Int
  | 0, _, _, _ => none
  | k + 1, x0, x1, x2 => transomref04_CmpRow.s2c (transomref04_Cmp.f k) (transomref04_order.f k) (transomref04_CmpRow.s0 k) (transomref04_CmpRow.s1 k) (transomref04_CmpRow.s2 k) x0 x1 x2 some
end
def transomref04_CmpRow.f (k : Nat) (a0 : List (Int × (Int × (Int × (ByteArray × Unit))))) (a1 : List (Int × (Int × (Int × (ByteArray × Unit))))) : Option Int := transomref04_CmpRow.c (transomref04_Cmp.f k) (transomref04_order.f k) (transomref04_CmpRow.s0 k) (transomref04_CmpRow.s1 k) (transomref04_CmpRow.s2 k) a0 a1 some
theorem transomref04_CmpRow.is (g59 : Int → Int → Int → ByteArray → Int → Int → Int → ByteArray → Option Int) (g60 : Bool → Option Int) (s0 : (List (Int × (Int × (Int × (ByteArray × Unit))))) → (List (Int × (Int × (Int × (ByteArray × Unit))))) → Int → Option Int) (s1 : (List (Int × (Int × (Int × (ByteArray × Unit))))) → (List (Int × (Int × (Int × (ByteArray × Unit))))) → Int → Bool → Option Int) (s2 : (List (Int × (Int × (Int × (ByteArray × Unit))))) → (List (Int × (Int × (Int × (ByteArray × Unit))))) → Int → Option Int) : FnIs (env_transomref04_CmpRow g59 g60 s0 s1 s2) 36 Go.Proofs.Try.f36 := ⟨Go.Proofs.Try.func36, rfl, rfl, rfl, by decide⟩
theorem transomref04_CmpRow.envok (g59 : Int → Int → Int → ByteArray → Int → Int → Int → ByteArray → Option Int) (g60 : Bool → Option Int) (s0 : (List (Int × (Int × (Int × (ByteArray × Unit))))) → (List (Int × (Int × (Int × (ByteArray × Unit))))) → Int → Option Int) (s1 : (List (Int × (Int × (Int × (ByteArray × Unit))))) → (List (Int × (Int × (Int × (ByteArray × Unit))))) → Int → Bool → Option Int) (s2 : (List (Int × (Int × (Int × (ByteArray × Unit))))) → (List (Int × (Int × (Int × (ByteArray × Unit))))) → Int → Option Int) (h59 : CtOK Go.Proofs.Try.prog 59 (ct_transomref04_Cmp g59)) (h60 : CtOK Go.Proofs.Try.prog 60 (ct_transomref04_order g60)) : EnvOK (env_transomref04_CmpRow g59 g60 s0 s1 s2).toEnv := by
  intro f c h
  simp only [env_transomref04_CmpRow] at h
  split at h
  · rename_i e; subst e; cases h; exact h59
  split at h
  · rename_i e; subst e; cases h; exact h60
  simp at h
theorem transomref04_CmpRow.segs_ok : ∀ k, ∀ s ∈ (env_transomref04_CmpRow (transomref04_Cmp.f k) (transomref04_order.f k) (transomref04_CmpRow.s0 k) (transomref04_CmpRow.s1 k) (transomref04_CmpRow.s2 k)).segs, SegOK (env_transomref04_CmpRow (transomref04_Cmp.f k) (transomref04_order.f k) (transomref04_CmpRow.s0 k) (transomref04_CmpRow.s1 k) (transomref04_CmpRow.s2 k)) Go.Proofs.Try.f36 s
  | 0 => by
    intro s hs
    simp only [env_transomref04_CmpRow, List.mem_cons, List.not_mem_nil, or_false] at hs
    rcases hs with rfl | rfl | rfl
    · intro tvs blks res h; exfalso; simp only [seg_transomref04_CmpRow_0] at h; split at h <;> simp [transomref04_CmpRow.s0] at h
    · intro tvs blks res h; exfalso; simp only [seg_transomref04_CmpRow_1] at h; split at h <;> simp [transomref04_CmpRow.s1] at h
    · intro tvs blks res h; exfalso; simp only [seg_transomref04_CmpRow_2] at h; split at h <;> simp [transomref04_CmpRow.s2] at h
  | k + 1 => by
    have ih := transomref04_CmpRow.segs_ok k
    intro s hs
    simp only [env_transomref04_CmpRow, List.mem_cons, List.not_mem_nil, or_false] at hs
    rcases hs with rfl | rfl | rfl
    · refine seg_of_ev (E := env_transomref04_CmpRow (transomref04_Cmp.f k) (transomref04_order.f k) (transomref04_CmpRow.s0 k) (transomref04_CmpRow.s1 k) (transomref04_CmpRow.s2 k)) (transomref04_CmpRow.envok _ _ _ _ _  (transomref04_Cmp.ok k) (transomref04_order.ok k)) ⟨(transomref04_CmpRow.is (transomref04_Cmp.f k) (transomref04_order.f k) (transomref04_CmpRow.s0 k) (transomref04_CmpRow.s1 k) (transomref04_CmpRow.s2 k)).rvs⟩ ih ?_
      intro tvs blks res h
      simp only [seg_transomref04_CmpRow_0] at h
      split at h
      · refine (transomref04_CmpRow.s0_ev (transomref04_Cmp.f k) (transomref04_order.f k) (transomref04_CmpRow.s0 k) (transomref04_CmpRow.s1 k) (transomref04_CmpRow.s2 k) _ _ _ ).trans ?_
        rw [transomref04_CmpRow.s0c_bind]
        exact h
      · simp at h
    · refine seg_of_ev (E := env_transomref04_CmpRow (transomref04_Cmp.f k) (transomref04_order.f k) (transomref04_CmpRow.s0 k) (transomref04_CmpRow.s1 k) (transomref04_CmpRow.s2 k)) (transomref04_CmpRow.envok _ _ _ _ _  (transomref04_Cmp.ok k) (transomref04_order.ok k)) ⟨(transomref04_CmpRow.is (transomref04_Cmp.f k) (transomref04_order.f k) (transomref04_CmpRow.s0 k) (transomref04_CmpRow.s1 k) (transomref04_CmpRow.s2 k)).rvs⟩ ih ?_
      intro tvs blks res h
      simp only [seg_transomref04_CmpRow_1] at h
      split at h
      · refine (transomref04_CmpRow.s1_ev (transomref04_Cmp.f k) (transomref04_order.f k) (transomref04_CmpRow.s0 k) (transomref04_CmpRow.s1 k) (transomref04_CmpRow.s2 k) _ _ _ _ ).trans ?_
        rw [transomref04_CmpRow.s1c_bind]
        exact h
      · simp at h
    · refine seg_of_ev (E := env_transomref04_CmpRow (transomref04_Cmp.f k) (transomref04_order.f k) (transomref04_CmpRow.s0 k) (transomref04_CmpRow.s1 k) (transomref04_CmpRow.s2 k)) (transomref04_CmpRow.envok _ _ _ _ _  (transomref04_Cmp.ok k) (transomref04_order.ok k)) ⟨(transomref04_CmpRow.is (transomref04_Cmp.f k) (transomref04_order.f k) (transomref04_CmpRow.s0 k) (transomref04_CmpRow.s1 k) (transomref04_CmpRow.s2 k)).rvs⟩ ih ?_
      intro tvs blks res h
      simp only [seg_transomref04_CmpRow_2] at h
      split at h
      · refine (transomref04_CmpRow.s2_ev (transomref04_Cmp.f k) (transomref04_order.f k) (transomref04_CmpRow.s0 k) (transomref04_CmpRow.s1 k) (transomref04_CmpRow.s2 k) _ _ _ ).trans ?_
        rw [transomref04_CmpRow.s2c_bind]
        exact h
      · simp at h
theorem transomref04_CmpRow.ok (k : Nat) : CtOK Go.Proofs.Try.prog 36 (ct_transomref04_CmpRow (transomref04_CmpRow.f k)) := by
  refine ct_of_ev (E := env_transomref04_CmpRow (transomref04_Cmp.f k) (transomref04_order.f k) (transomref04_CmpRow.s0 k) (transomref04_CmpRow.s1 k) (transomref04_CmpRow.s2 k)) (transomref04_CmpRow.is _ _ _ _ _ ) (transomref04_CmpRow.envok _ _ _ _ _  (transomref04_Cmp.ok k) (transomref04_order.ok k)) (transomref04_CmpRow.segs_ok k) rfl ?_
  intro tvs blks res h
  simp only [ct_transomref04_CmpRow] at h
  split at h
  · refine (transomref04_CmpRow.ev (transomref04_Cmp.f k) (transomref04_order.f k) (transomref04_CmpRow.s0 k) (transomref04_CmpRow.s1 k) (transomref04_CmpRow.s2 k) _ _ ).trans ?_
    rw [transomref04_CmpRow.c_bind]
    exact h
  · simp at h

/-! ### transomref06_Cmp: function 19 -/
def ct_transomref06_Cmp (g : (List (Int × (Int × (Int × (ByteArray × Unit))))) → (List (Int × (Int × (Int × (ByteArray × Unit))))) → Option Int) : Ct where
  nin := 0
  mv := []
  F := fun tvs blks {β} K => match tvs, blks with
    | [.v (.one (.d (.sl (.pair (.int .i64) (.pair (.int .i64) (.pair (.int .u64) (.pair .str .unit))))) a0)), .v (.one (.d (.sl (.pair (.int .i64) (.pair (.int .i64) (.pair (.int .u64) (.pair .str .unit))))) a1))], [] => (g a0 a1).bind fun r => K ⟨.v (.one (.d (.int .i64) r)), []⟩
    | _, _ => none
  legit := fun tvs blks K r h => by
    split at h
    · obtain ⟨x, hx, hk⟩ := Option.bind_eq_some_iff.1 h
      refine ⟨_, ?_, hk⟩
      simp only [hx, Option.bind_some]
    · simp at h
noncomputable def env_transomref06_Cmp (g36 : (List (Int × (Int × (Int × (ByteArray × Unit))))) → (List (Int × (Int × (Int × (ByteArray × Unit))))) → Option Int)  : FEnv := { P := Go.Proofs.Try.prog, ct := fun m => if m = 36 then some (ct_transomref04_CmpRow g36) else none, N := 8, body := Go.Proofs.Try.f19.body.getD .skip, rvs := [.tmp 4], rts := [3], nin := 0, rmv := [], segs := [] }
def transomref06_Cmp.c {β : Type} (g36 : (List (Int × (Int × (Int × (ByteArray × Unit))))) → (List (Int × (Int × (Int × (ByteArray × Unit))))) → Option Int)  (a0 : List (Int × (Int × (Int × (ByteArray × Unit))))) (a1 : List (Int × (Int × (Int × (ByteArray × Unit))))) (ret : Int → Option β) : Option β := ((g36 a0 a1).bind fun r0 => (ret (r0)))
theorem transomref06_Cmp.c_bind {β : Type} (g36 : (List (Int × (Int × (Int × (ByteArray × Unit))))) → (List (Int × (Int × (Int × (ByteArray × Unit))))) → Option Int)  (a0 : List (Int × (Int × (Int × (ByteArray × Unit))))) (a1 : List (Int × (Int × (Int × (ByteArray × Unit))))) (ret : Int → Option β) : transomref06_Cmp.c g36  a0 a1 ret = (transomref06_Cmp.c g36  a0 a1 some).bind ret := by
  simp only [transomref06_Cmp.c, bif_bind, sum_bind, Option.bind_assoc, Option.bind_some, Option.bind_none, Option.bind_fun_some]
theorem transomref06_Cmp.ev (g36 : (List (Int × (Int × (Int × (ByteArray × Unit))))) → (List (Int × (Int × (Int × (ByteArray × Unit))))) → Option Int)  (a0 : List (Int × (Int × (Int × (ByteArray × Unit))))) (a1 : List (Int × (Int × (Int × (ByteArray × Unit))))) : evAt (env_transomref06_Cmp g36 ) [] [0, 1] [.v (.one (.d (.sl (.pair (.int .i64) (.pair (.int .i64) (.pair (.int .u64) (.pair .str .unit))))) a0)), .v (.one (.d (.sl (.pair (.int .i64) (.pair (.int .i64) (.pair (.int .u64) (.pair .str .unit))))) a1))] [] some = transomref06_Cmp.c g36  a0 a1 (fun r => some ⟨.v (.one (.d (.int .i64) r)), []⟩) := by
  kernel_rfl
def transomref06_Cmp.f (k : Nat) (a0 : List (Int × (Int × (Int × (ByteArray × Unit))))) (a1 : List (Int × (Int × (Int × (ByteArray × Unit))))) : Option Int := transomref06_Cmp.c (transomref04_CmpRow.f k)  a0 a1 some
theorem transomref06_Cmp.is (g36 : (List (Int × (Int × (Int × (ByteArray × Unit))))) → (List (Int × (Int × (Int × (ByteArray × Unit))))) → Option Int)  : FnIs (env_transomref06_Cmp g36 ) 19 Go.Proofs.Try.f19 := ⟨Go.Proofs.Try.func19, rfl, rfl, rfl, by decide⟩
theorem transomref06_Cmp.envok (g36 : (List (Int × (Int × (Int × (ByteArray × Unit))))) → (List (Int × (Int × (Int × (ByteArray × Unit))))) → Option Int)  (h36 : CtOK Go.Proofs.Try.prog 36 (ct_transomref04_CmpRow g36)) : EnvOK (env_transomref06_Cmp g36 ).toEnv := by
  intro f c h
  simp only [env_transomref06_Cmp] at h
  split at h
  · rename_i e; subst e; cases h; exact h36
  simp at h
theorem transomref06_Cmp.ok (k : Nat) : CtOK Go.Proofs.Try.prog 19 (ct_transomref06_Cmp (transomref06_Cmp.f k)) := by
  refine ct_of_ev (E := env_transomref06_Cmp (transomref04_CmpRow.f k) ) (transomref06_Cmp.is _ ) (transomref06_Cmp.envok _  (transomref04_CmpRow.ok k)) (fun s hs => by simp [env_transomref06_Cmp] at hs) rfl ?_
  intro tvs blks res h
  simp only [ct_transomref06_Cmp] at h
  split at h
  · refine (transomref06_Cmp.ev (transomref04_CmpRow.f k)  _ _ ).trans ?_
    rw [transomref06_Cmp.c_bind]
    exact h
  · simp at h
end Go.Proofs.Ytlclhjdfbkenfaa.Aev
