/- By a program of this session (AEV): functions of the program as plain functions, and that the machine does what they say. -/
import Derived.Test.YtpcojbnoadnknaaAevW
import Derived.Test.YtpcojbnoadnknaaProg
import Derived.Laws.Externs
import Derived.Lib.Bytealg
import Derived.Test.YtpcojbnoadnknaaF2
import Derived.Test.YtpcojbnoadnknaaF13
namespace Go.Proofs.Ytpcojbnoadnknaa.Aev
set_option linter.unusedVariables false
set_option linter.unusedSimpArgs false
set_option maxRecDepth 100000
set_option maxHeartbeats 4000000
open Go
/-! ### transomref04_order: function 40 -/
def ct_transomref04_order (g : Bool → Option Int) : Ct where
  nin := 0
  mv := []
  F := fun tvs blks {β} K => match tvs, blks with
    | [.v (.one (.d .bool a0))], [] => (g a0).bind fun r => K ⟨.v (.one (.d (.int .i64) r)), []⟩
    | _, _ => none
  legit := fun tvs blks K r h => by
    split at h
    · obtain ⟨x, hx, hk⟩ := Option.bind_eq_some_iff.1 h
      refine ⟨_, ?_, hk⟩
      simp only [hx, Option.bind_some]
    · simp at h
noncomputable def env_transomref04_order   : FEnv := { P := Go.Proofs.Try.prog, ct := fun m => none, N := 4, body := Go.Proofs.Try.f40.body.getD .skip, rvs := [.tmp 2], rts := [3], nin := 0, rmv := [], segs := [] }
def transomref04_order.c {β : Type}   (a0 : Bool) (ret : Int → Option β) : Option β := (bif a0 then (ret ((-1 : Int))) else (ret ((1 : Int))))
theorem transomref04_order.c_bind {β : Type}   (a0 : Bool) (ret : Int → Option β) : transomref04_order.c   a0 ret = (transomref04_order.c   a0 some).bind ret := by
  simp only [transomref04_order.c, bif_bind, sum_bind, Option.bind_assoc, Option.bind_some, Option.bind_none, Option.bind_fun_some]
theorem transomref04_order.ev   (a0 : Bool) : evAt (env_transomref04_order  ) [] [0] [.v (.one (.d .bool a0))] [] some = transomref04_order.c   a0 (fun r => some ⟨.v (.one (.d (.int .i64) r)), []⟩) := by
  kernel_rfl
def transomref04_order.f (k : Nat) (a0 : Bool) : Option Int := transomref04_order.c   a0 some
theorem transomref04_order.is   : FnIs (env_transomref04_order  ) 40 Go.Proofs.Try.f40 := ⟨Go.Proofs.Try.func40, rfl, rfl, rfl, by decide⟩
theorem transomref04_order.envok    : EnvOK (env_transomref04_order  ).toEnv := by
  intro f c h
  simp only [env_transomref04_order] at h
  simp at h
theorem transomref04_order.ok (k : Nat) : CtOK Go.Proofs.Try.prog 40 (ct_transomref04_order (transomref04_order.f k)) := by
  refine ct_of_ev (E := env_transomref04_order  ) (transomref04_order.is ) (transomref04_order.envok  ) (fun s hs => by simp [env_transomref04_order] at hs) rfl ?_
  intro tvs blks res h
  simp only [ct_transomref04_order] at h
  split at h
  · refine (transomref04_order.ev   _ ).trans ?_
    rw [transomref04_order.c_bind]
    exact h
  · simp at h

/-! ### transomref02_Cmp: function 54 -/
def ct_transomref02_Cmp (g : Int → Int → Option Int) : Ct where
  nin := 0
  mv := []
  F := fun tvs blks {β} K => match tvs, blks with
    | [.v (.one (.d (.int .u64) a0)), .v (.one (.d (.int .u64) a1))], [] => (g a0 a1).bind fun r => K ⟨.v (.one (.d (.int .i64) r)), []⟩
    | _, _ => none
  legit := fun tvs blks K r h => by
    split at h
    · obtain ⟨x, hx, hk⟩ := Option.bind_eq_some_iff.1 h
      refine ⟨_, ?_, hk⟩
      simp only [hx, Option.bind_some]
    · simp at h
noncomputable def env_transomref02_Cmp (g37 : Int → Option Int)  : FEnv := { P := Go.Proofs.Try.prog, ct := fun m => if m = 37 then some (ct_transomref02_Key g37) else none, N := 17, body := Go.Proofs.Try.f54.body.getD .skip, rvs := [.tmp 4], rts := [3], nin := 0, rmv := [], segs := [] }
def transomref02_Cmp.c {β : Type} (g37 : Int → Option Int)  (a0 : Int) (a1 : Int) (ret : Int → Option β) : Option β := ((g37 a0).bind fun r0 => ((g37 a1).bind fun r1 => (bif (decide (r0 < r1)) then (ret ((-1 : Int))) else ((g37 a0).bind fun r2 => ((g37 a1).bind fun r3 => (bif (decide (r2 > r3)) then (ret ((1 : Int))) else (ret ((0 : Int)))))))))
theorem transomref02_Cmp.c_bind {β : Type} (g37 : Int → Option Int)  (a0 : Int) (a1 : Int) (ret : Int → Option β) : transomref02_Cmp.c g37  a0 a1 ret = (transomref02_Cmp.c g37  a0 a1 some).bind ret := by
  simp only [transomref02_Cmp.c, bif_bind, sum_bind, Option.bind_assoc, Option.bind_some, Option.bind_none, Option.bind_fun_some]
theorem transomref02_Cmp.ev (g37 : Int → Option Int)  (a0 : Int) (a1 : Int) : evAt (env_transomref02_Cmp g37 ) [] [0, 1] [.v (.one (.d (.int .u64) a0)), .v (.one (.d (.int .u64) a1))] [] some = transomref02_Cmp.c g37  a0 a1 (fun r => some ⟨.v (.one (.d (.int .i64) r)), []⟩) := by
  kernel_rfl
def transomref02_Cmp.f (k : Nat) (a0 : Int) (a1 : Int) : Option Int := transomref02_Cmp.c (transomref02_Key.f k)  a0 a1 some
theorem transomref02_Cmp.is (g37 : Int → Option Int)  : FnIs (env_transomref02_Cmp g37 ) 54 Go.Proofs.Try.f54 := ⟨Go.Proofs.Try.func54, rfl, rfl, rfl, by decide⟩
theorem transomref02_Cmp.envok (g37 : Int → Option Int)  (h37 : CtOK Go.Proofs.Try.prog 37 (ct_transomref02_Key g37)) : EnvOK (env_transomref02_Cmp g37 ).toEnv := by
  intro f c h
  simp only [env_transomref02_Cmp] at h
  split at h
  · rename_i e; subst e; cases h; exact h37
  simp at h
theorem transomref02_Cmp.ok (k : Nat) : CtOK Go.Proofs.Try.prog 54 (ct_transomref02_Cmp (transomref02_Cmp.f k)) := by
  refine ct_of_ev (E := env_transomref02_Cmp (transomref02_Key.f k) ) (transomref02_Cmp.is _ ) (transomref02_Cmp.envok _  (transomref02_Key.ok k)) (fun s hs => by simp [env_transomref02_Cmp] at hs) rfl ?_
  intro tvs blks res h
  simp only [ct_transomref02_Cmp] at h
  split at h
  · refine (transomref02_Cmp.ev (transomref02_Key.f k)  _ _ ).trans ?_
    rw [transomref02_Cmp.c_bind]
    exact h
  · simp at h

/-! ### transomref04_Cmp: function 39 -/
def ct_transomref04_Cmp (g : Int → Int → Int → ByteArray → Int → Int → Int → ByteArray → Option Int) : Ct where
  nin := 0
  mv := []
  F := fun tvs blks {β} K => match tvs, blks with
    | [.v (.agg [(.d (.int .i64) a0), (.d (.int .i64) a1), (.d (.int .u64) a2), (.d .str a3)]), .v (.agg [(.d (.int .i64) a4), (.d (.int .i64) a5), (.d (.int .u64) a6), (.d .str a7)])], [] => (g a0 a1 a2 a3 a4 a5 a6 a7).bind fun r => K ⟨.v (.one (.d (.int .i64) r)), []⟩
    | _, _ => none
  legit := fun tvs blks K r h => by
    split at h
    · obtain ⟨x, hx, hk⟩ := Option.bind_eq_some_iff.1 h
      refine ⟨_, ?_, hk⟩
      simp only [hx, Option.bind_some]
    · simp at h
noncomputable def env_transomref04_Cmp (g40 : Bool → Option Int) (g54 : Int → Int → Option Int)  : FEnv := { P := Go.Proofs.Try.prog, ct := fun m => if m = 40 then some (ct_transomref04_order g40) else if m = 54 then some (ct_transomref02_Cmp g54) else none, N := 47, body := Go.Proofs.Try.f39.body.getD .skip, rvs := [.tmp 4], rts := [3], nin := 0, rmv := [], segs := [] }
def transomref04_Cmp.c {β : Type} (g40 : Bool → Option Int) (g54 : Int → Int → Option Int)  (a0 : Int) (a1 : Int) (a2 : Int) (a3 : ByteArray) (a4 : Int) (a5 : Int) (a6 : Int) (a7 : ByteArray) (ret : Int → Option β) : Option β := (bif (a0 != a4) then ((g40 (decide (a0 < a4))).bind fun r0 => (ret (r0))) else (bif (a1 != a5) then ((g40 (decide (a1 < a5))).bind fun r1 => (ret (r1))) else ((g54 a2 a6).bind fun r2 => (bif (r2 != (0 : Int)) then (ret (r2)) else (bif (!((ByteArray.toList a3) == (ByteArray.toList a7))) then ((g40 (Op.bytesLess (ByteArray.toList a3) (ByteArray.toList a7))).bind fun r3 => (ret (r3))) else (ret ((0 : Int))))))))
theorem transomref04_Cmp.c_bind {β : Type} (g40 : Bool → Option Int) (g54 : Int → Int → Option Int)  (a0 : Int) (a1 : Int) (a2 : Int) (a3 : ByteArray) (a4 : Int) (a5 : Int) (a6 : Int) (a7 : ByteArray) (ret : Int → Option β) : transomref04_Cmp.c g40 g54  a0 a1 a2 a3 a4 a5 a6 a7 ret = (transomref04_Cmp.c g40 g54  a0 a1 a2 a3 a4 a5 a6 a7 some).bind ret := by
  simp only [transomref04_Cmp.c, bif_bind, sum_bind, Option.bind_assoc, Option.bind_some, Option.bind_none, Option.bind_fun_some]
theorem transomref04_Cmp.ev (g40 : Bool → Option Int) (g54 : Int → Int → Option Int)  (a0 : Int) (a1 : Int) (a2 : Int) (a3 : ByteArray) (a4 : Int) (a5 : Int) (a6 : Int) (a7 : ByteArray) : evAt (env_transomref04_Cmp g40 g54 ) [] [0, 1] [.v (.agg [(.d (.int .i64) a0), (.d (.int .i64) a1), (.d (.int .u64) a2), (.d .str a3)]), .v (.agg [(.d (.int .i64) a4), (.d (.int .i64) a5), (.d (.int .u64) a6), (.d .str a7)])] [] some = transomref04_Cmp.c g40 g54  a0 a1 a2 a3 a4 a5 a6 a7 (fun r => some ⟨.v (.one (.d (.int .i64) r)), []⟩) := by
  kernel_rfl
def transomref04_Cmp.f (k : Nat) (a0 : Int) (a1 : Int) (a2 : Int) (a3 : ByteArray) (a4 : Int) (a5 : Int) (a6 : Int) (a7 : ByteArray) : Option Int := transomref04_Cmp.c (transomref04_order.f k) (transomref02_Cmp.f k)  a0 a1 a2 a3 a4 a5 a6 a7 some
theorem transomref04_Cmp.is (g40 : Bool → Option Int) (g54 : Int → Int → Option Int)  : FnIs (env_transomref04_Cmp g40 g54 ) 39 Go.Proofs.Try.f39 := ⟨Go.Proofs.Try.func39, rfl, rfl, rfl, by decide⟩
theorem transomref04_Cmp.envok (g40 : Bool → Option Int) (g54 : Int → Int → Option Int)  (h40 : CtOK Go.Proofs.Try.prog 40 (ct_transomref04_order g40)) (h54 : CtOK Go.Proofs.Try.prog 54 (ct_transomref02_Cmp g54)) : EnvOK (env_transomref04_Cmp g40 g54 ).toEnv := by
  intro f c h
  simp only [env_transomref04_Cmp] at h
  split at h
  · rename_i e; subst e; cases h; exact h40
  split at h
  · rename_i e; subst e; cases h; exact h54
  simp at h
theorem transomref04_Cmp.ok (k : Nat) : CtOK Go.Proofs.Try.prog 39 (ct_transomref04_Cmp (transomref04_Cmp.f k)) := by
  refine ct_of_ev (E := env_transomref04_Cmp (transomref04_order.f k) (transomref02_Cmp.f k) ) (transomref04_Cmp.is _ _ ) (transomref04_Cmp.envok _ _  (transomref04_order.ok k) (transomref02_Cmp.ok k)) (fun s hs => by simp [env_transomref04_Cmp] at hs) rfl ?_
  intro tvs blks res h
  simp only [ct_transomref04_Cmp] at h
  split at h
  · refine (transomref04_Cmp.ev (transomref04_order.f k) (transomref02_Cmp.f k)  _ _ _ _ _ _ _ _ ).trans ?_
    rw [transomref04_Cmp.c_bind]
    exact h
  · simp at h

/-! ### transomref04_CmpRow: function 23 -/
def ct_transomref04_CmpRow (g : (List (Int × (Int × (Int × (ByteArray × Unit))))) → (List (Int × (Int × (Int × (ByteArray × Unit))))) → Option Int) : Ct where
  nin := 0
  mv := []
  F := fun tvs blks {β} K => match tvs, blks with
    | [.v (.one (.d (.sl (.pair (.int .i64) (.pair (.int .i64) (.pair (.int .u64) (.pair .str .unit))))) a0)), .v (.one (.d (.sl (.pair (.int .i64) (.pair (.int .i64) (.pair (.int .u64) (.pair .str .unit))))) a1))], [] => (g a0 a1).bind fun r => K ⟨.v (.one (.d (.int .i64) r)), []⟩
    | _, _ => none
  legit := fun tvs blks K r h => by
    split at h
    · obtain ⟨x, hx, hk⟩ := Option.bind_eq_some_iff.1 h
      refine ⟨_, ?_, hk⟩
      simp only [hx, Option.bind_some]
    · simp at h
def seg_transomref04_CmpRow_0 (g : (List (Int × (Int × (Int × (ByteArray × Unit))))) → (List (Int × (Int × (Int × (ByteArray × Unit))))) → Int → Option Int) : Seg where
  path := [4, 1, 0, 1]
  prep := []
  keep := [0, 1, 5]
  F := fun tvs blks {β} K => match tvs, blks with
    | [.v (.one (.d (.sl (.pair (.int .i64) (.pair (.int .i64) (.pair (.int .u64) (.pair .str .unit))))) x0)), .v (.one (.d (.sl (.pair (.int .i64) (.pair (.int .i64) (.pair (.int .u64) (.pair .str .unit))))) x1)), .v (.one (.d (.int .i64) x2))], [] => (g x0 x1 x2).bind fun r => K ⟨.v (.one (.d (.int .i64) r)), []⟩
    | _, _ => none
  legit := fun tvs blks K r h => by
    split at h
    · obtain ⟨x, hx, hk⟩ := Option.bind_eq_some_iff.1 h
      refine ⟨_, ?_, hk⟩
      simp only [hx, Option.bind_some]
    · simp at h
def seg_transomref04_CmpRow_1 (g : (List (Int × (Int × (Int × (ByteArray × Unit))))) → (List (Int × (Int × (Int × (ByteArray × Unit))))) → Int → Bool → Option Int) : Seg where
  path := [1, 0, 5, 4, 1, 0, 1]
  prep := []
  keep := [0, 1, 5, 16]
  F := fun tvs blks {β} K => match tvs, blks with
    | [.v (.one (.d (.sl (.pair (.int .i64) (.pair (.int .i64) (.pair (.int .u64) (.pair .str .unit))))) x0)), .v (.one (.d (.sl (.pair (.int .i64) (.pair (.int .i64) (.pair (.int .u64) (.pair .str .unit))))) x1)), .v (.one (.d (.int .i64) x2)), .v (.one (.d .bool x3))], [] => (g x0 x1 x2 x3).bind fun r => K ⟨.v (.one (.d (.int .i64) r)), []⟩
    | _, _ => none
  legit := fun tvs blks K r h => by
    split at h
    · obtain ⟨x, hx, hk⟩ := Option.bind_eq_some_iff.1 h
      refine ⟨_, ?_, hk⟩
      simp only [hx, Option.bind_some]
    · simp at h
def seg_transomref04_CmpRow_2 (g : (List (Int × (Int × (Int × (ByteArray × Unit))))) → (List (Int × (Int × (Int × (ByteArray × Unit))))) → Int → Option Int) : Seg where
  path := [1, 5, 4, 1, 0, 1]
  prep := []
  keep := [0, 1, 5]
  F := fun tvs blks {β} K => match tvs, blks with
    | [.v (.one (.d (.sl (.pair (.int .i64) (.pair (.int .i64) (.pair (.int .u64) (.pair .str .unit))))) x0)), .v (.one (.d (.sl (.pair (.int .i64) (.pair (.int .i64) (.pair (.int .u64) (.pair .str .unit))))) x1)), .v (.one (.d (.int .i64) x2))], [] => (g x0 x1 x2).bind fun r => K ⟨.v (.one (.d (.int .i64) r)), []⟩
    | _, _ => none
  legit := fun tvs blks K r h => by
    split at h
    · obtain ⟨x, hx, hk⟩ := Option.bind_eq_some_iff.1 h
      refine ⟨_, ?_, hk⟩
      simp only [hx, Option.bind_some]
    · simp at h
noncomputable def env_transomref04_CmpRow (g39 : Int → Int → Int → ByteArray → Int → Int → Int → ByteArray → Option Int) (g40 : Bool → Option Int) (s0 : (List (Int × (Int × (Int × (ByteArray × Unit))))) → (List (Int × (Int × (Int × (ByteArray × Unit))))) → Int → Option Int) (s1 : (List (Int × (Int × (Int × (ByteArray × Unit))))) → (List (Int × (Int × (Int × (ByteArray × Unit))))) → Int → Bool → Option Int) (s2 : (List (Int × (Int × (Int × (ByteArray × Unit))))) → (List (Int × (Int × (Int × (ByteArray × Unit))))) → Int → Option Int) : FEnv := { P := Go.Proofs.Try.prog, ct := fun m => if m = 39 then some (ct_transomref04_Cmp g39) else if m = 40 then some (ct_transomref04_order g40) else none, N := 42, body := Go.Proofs.Try.f23.body.getD .skip, rvs := [.tmp 4], rts := [3], nin := 0, rmv := [], segs := [seg_transomref04_CmpRow_0 s0, seg_transomref04_CmpRow_1 s1, seg_transomref04_CmpRow_2 s2] }
def transomref04_CmpRow.c {β : Type} (g39 : Int → Int → Int → ByteArray → Int → Int → Int → ByteArray → Option Int) (g40 : Bool → Option Int) (s0 : (List (Int × (Int × (Int × (ByteArray × Unit))))) → (List (Int × (Int × (Int × (ByteArray × Unit))))) → Int → Option Int) (s1 : (List (Int × (Int × (Int × (ByteArray × Unit))))) → (List (Int × (Int × (Int × (ByteArray × Unit))))) → Int → Bool → Option Int) (s2 : (List (Int × (Int × (Int × (ByteArray × Unit))))) → (List (Int × (Int × (Int × (ByteArray × Unit))))) → Int → Option Int) (a0 : List (Int × (Int × (Int × (ByteArray × Unit))))) (a1 : List (Int × (Int × (Int × (ByteArray × Unit))))) (ret : Int → Option β) : Option β := ((s0 a0 a1 (0 : Int)).bind ret)
def transomref04_CmpRow.s0c {β : Type} (g39 : Int → Int → Int → ByteArray → Int → Int → Int → ByteArray → Option Int) (g40 : Bool → Option Int) (s0 : (List (Int × (Int × (Int × (ByteArray × Unit))))) → (List (Int × (Int × (Int × (ByteArray × Unit))))) → Int → Option Int) (s1 : (List (Int × (Int × (Int × (ByteArray × Unit))))) → (List (Int × (Int × (Int × (ByteArray × Unit))))) → Int → Bool → Option Int) (s2 : (List (Int × (Int × (Int × (ByteArray × Unit))))) → (List (Int × (Int × (Int × (ByteArray × Unit))))) → Int → Option Int) (x0 : List (Int × (Int × (Int × (ByteArray × Unit))))) (x1 : List (Int × (Int × (Int × (ByteArray × Unit))))) (x2 : Int) (ret : Int → Option β) : Option β := (bif (decide (x2 < ((List.length x0) : Int))) then ((s1 x0 x1 x2 (decide (x2 < ((List.length x1) : Int)))).bind ret) else ((s1 x0 x1 x2 false).bind ret))
def transomref04_CmpRow.s1c {β : Type} (g39 : Int → Int → Int → ByteArray → Int → Int → Int → ByteArray → Option Int) (g40 : Bool → Option Int) (s0 : (List (Int × (Int × (Int × (ByteArray × Unit))))) → (List (Int × (Int × (Int × (ByteArray × Unit))))) → Int → Option Int) (s1 : (List (Int × (Int × (Int × (ByteArray × Unit))))) → (List (Int × (Int × (Int × (ByteArray × Unit))))) → Int → Bool → Option Int) (s2 : (List (Int × (Int × (Int × (ByteArray × Unit))))) → (List (Int × (Int × (Int × (ByteArray × Unit))))) → Int → Option Int) (x0 : List (Int × (Int × (Int × (ByteArray × Unit))))) (x1 : List (Int × (Int × (Int × (ByteArray × Unit))))) (x2 : Int) (x3 : Bool) (ret : Int → Option β) : Option β := (bif x3 then ((s2 x0 x1 x2).bind ret) else (bif (((List.length x0) : Int) != ((List.length x1) : Int)) then ((g40 (decide (((List.length x0) : Int) < ((List.length x1) : Int)))).bind fun r0 => (ret (r0))) else (ret ((0 : Int)))))
def transomref04_CmpRow.s2c {β : Type} (g39 : Int → Int → Int → ByteArray → Int → Int → Int → ByteArray → Option Int) (g40 : Bool → Option Int) (s0 : (List (Int × (Int × (Int × (ByteArray × Unit))))) → (List (Int × (Int × (Int × (ByteArray × Unit))))) → Int → Option Int) (s1 : (List (Int × (Int × (Int × (ByteArray × Unit))))) → (List (Int × (Int × (Int × (ByteArray × Unit))))) → Int → Bool → Option Int) (s2 : (List (Int × (Int × (Int × (ByteArray × Unit))))) → (List (Int × (Int × (Int × (ByteArray × Unit))))) → Int → Option Int) (x0 : List (Int × (Int × (Int × (ByteArray × Unit))))) (x1 : List (Int × (Int × (Int × (ByteArray × Unit))))) (x2 : Int) (ret : Int → Option β) : Option β := (bif ((decide ((0 : Int) ≤ x2)) && (decide (x2 < ((List.length x0) : Int)))) then (bif ((decide ((0 : Int) ≤ x2)) && (decide (x2 < ((List.length x1) : Int)))) then ((g39 (elem (Ty.pair (Ty.int IntKind.i64) (Ty.pair (Ty.int IntKind.i64) (Ty.pair (Ty.int IntKind.u64) (Ty.pair Ty.str Ty.unit)))) x0 x2).1 (elem (Ty.pair (Ty.int IntKind.i64) (Ty.pair (Ty.int IntKind.i64) (Ty.pair (Ty.int IntKind.u64) (Ty.pair Ty.str Ty.unit)))) x0 x2).2.1 (elem (Ty.pair (Ty.int IntKind.i64) (Ty.pair (Ty.int IntKind.i64) (Ty.pair (Ty.int IntKind.u64) (Ty.pair Ty.str Ty.unit)))) x0 x2).2.2.1 (elem (Ty.pair (Ty.int IntKind.i64) (Ty.pair (Ty.int IntKind.i64) (Ty.pair (Ty.int IntKind.u64) (Ty.pair Ty.str Ty.unit)))) x0 x2).2.2.2.1 (elem (Ty.pair (Ty.int IntKind.i64) (Ty.pair (Ty.int IntKind.i64) (Ty.pair (Ty.int IntKind.u64) (Ty.pair Ty.str Ty.unit)))) x1 x2).1 (elem (Ty.pair (Ty.int IntKind.i64) (Ty.pair (Ty.int IntKind.i64) (Ty.pair (Ty.int IntKind.u64) (Ty.pair Ty.str Ty.unit)))) x1 x2).2.1 (elem (Ty.pair (Ty.int IntKind.i64) (Ty.pair (Ty.int IntKind.i64) (Ty.pair (Ty.int IntKind.u64) (Ty.pair Ty.str Ty.unit)))) x1 x2).2.2.1 (elem (Ty.pair (Ty.int IntKind.i64) (Ty.pair (Ty.int IntKind.i64) (Ty.pair (Ty.int IntKind.u64) (Ty.pair Ty.str Ty.unit)))) x1 x2).2.2.2.1).bind fun r0 => (bif (r0 != (0 : Int)) then (ret (r0)) else ((s0 x0 x1 (IntKind.wrap IntKind.i64 (x2 + (1 : Int)))).bind ret))) else none) else none)
theorem transomref04_CmpRow.c_bind {β : Type} (g39 : Int → Int → Int → ByteArray → Int → Int → Int → ByteArray → Option Int) (g40 : Bool → Option Int) (s0 : (List (Int × (Int × (Int × (ByteArray × Unit))))) → (List (Int × (Int × (Int × (ByteArray × Unit))))) → Int → Option Int) (s1 : (List (Int × (Int × (Int × (ByteArray × Unit))))) → (List (Int × (Int × (Int × (ByteArray × Unit))))) → Int → Bool → Option Int) (s2 : (List (Int × (Int × (Int × (ByteArray × Unit))))) → (List (Int × (Int × (Int × (ByteArray × Unit))))) → Int → Option Int) (a0 : List (Int × (Int × (Int × (ByteArray × Unit))))) (a1 : List (Int × (Int × (Int × (ByteArray × Unit))))) (ret : Int → Option β) : transomref04_CmpRow.c g39 g40 s0 s1 s2 a0 a1 ret = (transomref04_CmpRow.c g39 g40 s0 s1 s2 a0 a1 some).bind ret := by
  simp only [transomref04_CmpRow.c, bif_bind, sum_bind, Option.bind_assoc, Option.bind_some, Option.bind_none, Option.bind_fun_some]
theorem transomref04_CmpRow.s0c_bind {β : Type} (g39 : Int → Int → Int → ByteArray → Int → Int → Int → ByteArray → Option Int) (g40 : Bool → Option Int) (s0 : (List (Int × (Int × (Int × (ByteArray × Unit))))) → (List (Int × (Int × (Int × (ByteArray × Unit))))) → Int → Option Int) (s1 : (List (Int × (Int × (Int × (ByteArray × Unit))))) → (List (Int × (Int × (Int × (ByteArray × Unit))))) → Int → Bool → Option Int) (s2 : (List (Int × (Int × (Int × (ByteArray × Unit))))) → (List (Int × (Int × (Int × (ByteArray × Unit))))) → Int → Option Int) (x0 : List (Int × (Int × (Int × (ByteArray × Unit))))) (x1 : List (Int × (Int × (Int × (ByteArray × Unit))))) (x2 : Int) (ret : Int → Option β) : transomref04_CmpRow.s0c g39 g40 s0 s1 s2 x0 x1 x2 ret = (transomref04_CmpRow.s0c g39 g40 s0 s1 s2 x0 x1 x2 some).bind ret := by
  simp only [transomref04_CmpRow.s0c, bif_bind, sum_bind, Option.bind_assoc, Option.bind_some, Option.bind_none, Option.bind_fun_some]
theorem transomref04_CmpRow.s1c_bind {β : Type} (g39 : Int → Int → Int → ByteArray → Int → Int → Int → ByteArray → Option Int) (g40 : Bool → Option Int) (s0 : (List (Int × (Int × (Int × (ByteArray × Unit))))) → (List (Int × (Int × (Int × (ByteArray × Unit))))) → Int → Option Int) (s1 : (List (Int × (Int × (Int × (ByteArray × Unit))))) → (List (Int × (Int × (Int × (ByteArray × Unit))))) → Int → Bool → Option Int) (s2 : (List (Int × (Int × (Int × (ByteArray × Unit))))) → (List (Int × (Int × (Int × (ByteArray × Unit))))) → Int → Option Int) (x0 : List (Int × (Int × (Int × (ByteArray × Unit))))) (x1 : List (Int × (Int × (Int × (ByteArray × Unit))))) (x2 : Int) (x3 : Bool) (ret : Int → Option β) : transomref04_CmpRow.s1c g39 g40 s0 s1 s2 x0 x1 x2 x3 ret = (transomref04_CmpRow.s1c g39 g40 s0 s1 s2 x0 x1 x2 x3 some).bind ret := by
  simp only [transomref04_CmpRow.s1c, bif_bind, sum_bind, Option.bind_assoc, Option.bind_some, Option.bind_none, Option.bind_fun_some]
theorem transomref04_CmpRow.s2c_bind {β : Type} (g39 : Int → Int → Int → ByteArray → Int → Int → Int → ByteArray → Option Int) (g40 : Bool → Option Int) (s0 : (List (Int × (Int × (Int × (ByteArray × Unit))))) → (List (Int × (Int × (Int × (ByteArray × Unit))))) → Int → Option Int) (s1 : (List (Int × (Int × (Int × (ByteArray × Unit))))) → (List (Int × (Int × (Int × (ByteArray × Unit))))) → Int → Bool → Option Int) (s2 : (List (Int × (Int × (Int × (ByteArray × Unit))))) → (List (Int × (Int × (Int × (ByteArray × Unit))))) → Int → Option Int) (x0 : List (Int × (Int × (Int × (ByteArray × Unit))))) (x1 : List (Int × (Int × (Int × (ByteArray × Unit))))) (x2 : Int) (ret : Int → Option β) : transomref04_CmpRow.s2c g39 g40 s0 s1 s2 x0 x1 x2 ret = (transomref04_CmpRow.s2c g39 g40 s0 s1 s2 x0 x1 x2 some).bind ret := by
  simp only [transomref04_CmpRow.s2c, bif_bind, sum_bind, Option.bind_assoc, Option.bind_some, Option.bind_none, Option.bind_fun_some]
theorem transomref04_CmpRow.ev (g39 : Int → Int → Int → ByteArray → Int → Int → Int → ByteArray → Option Int) (g40 : Bool → Option Int) (s0 : (List (Int × (Int × (Int × (ByteArray × Unit))))) → (List (Int × (Int × (Int × (ByteArray × Unit))))) → Int → Option Int) (s1 : (List (Int × (Int × (Int × (ByteArray × Unit))))) → (List (Int × (Int × (Int × (ByteArray × Unit))))) → Int → Bool → Option Int) (s2 : (List (Int × (Int × (Int × (ByteArray × Unit))))) → (List (Int × (Int × (Int × (ByteArray × Unit))))) → Int → Option Int) (a0 : List (Int × (Int × (Int × (ByteArray × Unit))))) (a1 : List (Int × (Int × (Int × (ByteArray × Unit))))) : evAt (env_transomref04_CmpRow g39 g40 s0 s1 s2) [] [0, 1] [.v (.one (.d (.sl (.pair (.int .i64) (.pair (.int .i64) (.pair (.int .u64) (.pair .str .unit))))) a0)), .v (.one (.d (.sl (.pair (.int .i64) (.pair (.int .i64) (.pair (.int .u64) (.pair .str .unit))))) a1))] [] some = transomref04_CmpRow.c g39 g40 s0 s1 s2 a0 a1 (fun r => some ⟨.v (.one (.d (.int .i64) r)), []⟩) := by
  kernel_rfl
theorem transomref04_CmpRow.s0_ev (g39 : Int → Int → Int → ByteArray → Int → Int → Int → ByteArray → Option Int) (g40 : Bool → Option Int) (s0 : (List (Int × (Int × (Int × (ByteArray × Unit))))) → (List (Int × (Int × (Int × (ByteArray × Unit))))) → Int → Option Int) (s1 : (List (Int × (Int × (Int × (ByteArray × Unit))))) → (List (Int × (Int × (Int × (ByteArray × Unit))))) → Int → Bool → Option Int) (s2 : (List (Int × (Int × (Int × (ByteArray × Unit))))) → (List (Int × (Int × (Int × (ByteArray × Unit))))) → Int → Option Int) (x0 : List (Int × (Int × (Int × (ByteArray × Unit))))) (x1 : List (Int × (Int × (Int × (ByteArray × Unit))))) (x2 : Int) : evAt (env_transomref04_CmpRow g39 g40 s0 s1 s2) [4, 1, 0, 1] [0, 1, 5] [.v (.one (.d (.sl (.pair (.int .i64) (.pair (.int .i64) (.pair (.int .u64) (.pair .str .unit))))) x0)), .v (.one (.d (.sl (.pair (.int .i64) (.pair (.int .i64) (.pair (.int .u64) (.pair .str .unit))))) x1)), .v (.one (.d (.int .i64) x2))] [] some = transomref04_CmpRow.s0c g39 g40 s0 s1 s2 x0 x1 x2 (fun r => some ⟨.v (.one (.d (.int .i64) r)), []⟩) := by
  kernel_rfl
theorem transomref04_CmpRow.s1_ev (g39 : Int → Int → Int → ByteArray → Int → Int → Int → ByteArray → Option Int) (g40 : Bool → Option Int) (s0 : (List (Int × (Int × (Int × (ByteArray × Unit))))) → (List (Int × (Int × (Int × (ByteArray × Unit))))) → Int → Option Int) (s1 : (List (Int × (Int × (Int × (ByteArray × Unit))))) → (List (Int × (Int × (Int × (ByteArray × Unit))))) → Int → Bool → Option Int) (s2 : (List (Int × (Int × (Int × (ByteArray × Unit))))) → (List (Int × (Int × (Int × (ByteArray × Unit))))) → Int → Option Int) (x0 : List (Int × (Int × (Int × (ByteArray × Unit))))) (x1 : List (Int × (Int × (Int × (ByteArray × Unit))))) (x2 : Int) (x3 : Bool) : evAt (env_transomref04_CmpRow g39 g40 s0 s1 s2) [1, 0, 5, 4, 1, 0, 1] [0, 1, 5, 16] [.v (.one (.d (.sl (.pair (.int .i64) (.pair (.int .i64) (.pair (.int .u64) (.pair .str .unit))))) x0)), .v (.one (.d (.sl (.pair (.int .i64) (.pair (.int .i64) (.pair (.int .u64) (.pair .str .unit))))) x1)), .v (.one (.d (.int .i64) x2)), .v (.one (.d .bool x3))] [] some = transomref04_CmpRow.s1c g39 g40 s0 s1 s2 x0 x1 x2 x3 (fun r => some ⟨.v (.one (.d (.int .i64) r)), []⟩) := by
  kernel_rfl
theorem transomref04_CmpRow.s2_ev (g39 : Int → Int → Int → ByteArray → Int → Int → Int → ByteArray → Option Int) (g40 : Bool → Option Int) (s0 : (List (Int × (Int × (Int × (ByteArray × Unit))))) → (List (Int × (Int × (Int × (ByteArray × Unit))))) → Int → Option Int) (s1 : (List (Int × (Int × (Int × (ByteArray × Unit))))) → (List (Int × (Int × (Int × (ByteArray × Unit))))) → Int → Bool → Option Int) (s2 : (List (Int × (Int × (Int × (ByteArray × Unit))))) → (List (Int × (Int × (Int × (ByteArray × Unit))))) → Int → Option Int) (x0 : List (Int × (Int × (Int × (ByteArray × Unit))))) (x1 : List (Int × (Int × (Int × (ByteArray × Unit))))) (x2 : Int) : evAt (env_transomref04_CmpRow g39 g40 s0 s1 s2) [1, 5, 4, 1, 0, 1] [0, 1, 5] [.v (.one (.d (.sl (.pair (.int .i64) (.pair (.int .i64) (.pair (.int .u64) (.pair .str .unit))))) x0)), .v (.one (.d (.sl (.pair (.int .i64) (.pair (.int .i64) (.pair (.int .u64) (.pair .str .unit))))) x1)), .v (.one (.d (.int .i64) x2))] [] some = transomref04_CmpRow.s2c g39 g40 s0 s1 s2 x0 x1 x2 (fun r => some ⟨.v (.one (.d (.int .i64) r)), []⟩) := by
  kernel_rfl
mutual
def transomref04_CmpRow.s0 : Nat → (List (Int × (Int × (Int × (ByteArray × Unit))))) → (List (Int × (Int × (Int × (ByteArray × Unit))))) → Int → Option Int
  | 0, _, _, _ => none
  | k + 1, x0, x1, x2 => transomref04_CmpRow.s0c (transomref04_Cmp.f k) (transomref04_order.f k) (transomref04_CmpRow.s0 k) (transomref04_CmpRow.s1 k) (transomref04_CmpRow.s2 k) x0 x1 x2 some
def transomref04_CmpRow.s1 : Nat → (List (Int × (Int × (Int × (ByteArray × Unit))))) → (List (Int × (Int × (Int × (ByteArray × Unit))))) → Int → Bool → Option Int
  | 0, _, _, _, _ => none
  | k + 1, x0, x1, x2, x3 => transomref04_CmpRow.s1c (transomref04_Cmp.f k) (transomref04_order.f k) (transomref04_CmpRow.s0 k) (transomref04_CmpRow.s1 k) (transomref04_CmpRow.s2 k) x0 x1 x2 x3 some
def transomref04_CmpRow.s2 : Nat → (List (Int × (Int × (Int × (ByteArray × Unit))))) → (List (Int × (Int × (Int × (ByteArray × Unit))))) → Int → Option Int
  | 0, _, _, _ => none
  | k + 1, x0, x1, x2 => transomref04_CmpRow.s2c (transomref04_Cmp.f k) (transomref04_order.f k) (transomref04_CmpRow.s0 k) (transomref04_CmpRow.s1 k) (transomref04_CmpRow.s2 k) x0 x1 x2 some
end
def transomref04_CmpRow.f (k : Nat) (a0 : List (Int × (Int × (Int × (ByteArray × Unit))))) (a1 : List (Int × (Int × (Int × (ByteArray × Unit))))) : Option Int := transomref04_CmpRow.c (transomref04_Cmp.f k) (transomref04_order.f k) (transomref04_CmpRow.s0 k) (transomref04_CmpRow.s1 k) (transomref04_CmpRow.s2 k) a0 a1 some
theorem transomref04_CmpRow.is (g39 : Int → Int → Int → ByteArray → Int → Int → Int → ByteArray → Option Int) (g40 : Bool → Option Int) (s0 : (List (Int × (Int × (Int × (ByteArray × Unit))))) → (List (Int × (Int × (Int × (ByteArray × Unit))))) → Int → Option Int) (s1 : (List (Int × (Int × (Int × (ByteArray × Unit))))) → (List (Int × (Int × (Int × (ByteArray × Unit))))) → Int → Bool → Option Int) (s2 : (List (Int × (Int × (Int × (ByteArray × Unit))))) → (List (Int × (Int × (Int × (ByteArray × Unit))))) → Int → Option Int) : FnIs (env_transomref04_CmpRow g39 g40 s0 s1 s2) 23 Go.Proofs.Try.f23 := ⟨Go.Proofs.Try.func23, rfl, rfl, rfl, by decide⟩
theorem transomref04_CmpRow.envok (g39 : Int → Int → Int → ByteArray → Int → Int → Int → ByteArray → Option Int) (g40 : Bool → Option Int) (s0 : (List (Int × (Int × (Int × (ByteArray × Unit))))) → (List (Int × (Int × (Int × (ByteArray × Unit))))) → Int → Option Int) (s1 : (List (Int × (Int × (Int × (ByteArray × Unit))))) → (List (Int × (Int × (Int × (ByteArray × Unit))))) → Int → Bool → Option Int) (s2 : (List (Int × (Int × (Int × (ByteArray × Unit))))) → (List (Int × (Int × (Int × (ByteArray × Unit))))) → Int → Option Int) (h39 : CtOK Go.Proofs.Try.prog 39 (ct_transomref04_Cmp g39)) (h40 : CtOK Go.Proofs.Try.prog 40 (ct_transomref04_order g40)) : EnvOK (env_transomref04_CmpRow g39 g40 s0 s1 s2).toEnv := by
  intro f c h
  simp only [env_transomref04_CmpRow] at h
  split at h
  · rename_i e; subst e; cases h; exact h39
  split at h
  · rename_i e; subst e; cases h; exact h40
  simp at h
theorem transomref04_CmpRow.segs_ok : ∀ k, ∀ s ∈ (env_transomref04_CmpRow (transomref04_Cmp.f k) (transomref04_order.f k) (transomref04_CmpRow.s0 k) (transomref04_CmpRow.s1 k) (transomref04_CmpRow.s2 k)).segs, SegOK (env_transomref04_CmpRow (transomref04_Cmp.f k) (transomref04_order.f k) (transomref04_CmpRow.s0 k) (transomref04_CmpRow.s1 k) (transomref04_CmpRow.s2 k)) Go.Proofs.Try.f23 s
  | 0 => by
    intro s hs
    simp only [env_transomref04_CmpRow, List.mem_cons, List.not_mem_nil, or_false] at hs
    rcases hs with rfl | rfl | rfl
    · intro tvs blks res h; exfalso; simp only [seg_transomref04_CmpRow_0] at h; split at h <;> simp [transomref04_CmpRow.s0] at h
    · intro tvs blks res h; exfalso; simp only [seg_transomref04_CmpRow_1] at h; split at h <;> simp [transomref04_CmpRow.s1] at h
    · intro tvs blks res h; exfalso; simp only [seg_transomref04_CmpRow_2] at h; split at h <;> simp [transomref04_CmpRow.s2] at h
  | k + 1 => by
    have ih := transomref04_CmpRow.segs_ok k
    intro s hs
    simp only [env_transomref04_CmpRow, List.mem_cons, List.not_mem_nil, or_false] at hs
    rcases hs with rfl | rfl | rfl
    · refine seg_of_ev (E := env_transomref04_CmpRow (transomref04_Cmp.f k) (transomref04_order.f k) (transomref04_CmpRow.s0 k) (transomref04_CmpRow.s1 k) (transomref04_CmpRow.s2 k)) (transomref04_CmpRow.envok _ _ _ _ _  (transomref04_Cmp.ok k) (transomref04_order.ok k)) ⟨(transomref04_CmpRow.is (transomref04_Cmp.f k) (transomref04_order.f k) (transomref04_CmpRow.s0 k) (transomref04_CmpRow.s1 k) (transomref04_CmpRow.s2 k)).rvs⟩ ih ?_
      intro tvs blks res h
      simp only [seg_transomref04_CmpRow_0] at h
      split at h
      · refine (transomref04_CmpRow.s0_ev (transomref04_Cmp.f k) (transomref04_order.f k) (transomref04_CmpRow.s0 k) (transomref04_CmpRow.s1 k) (transomref04_CmpRow.s2 k) _ _ _ ).trans ?_
        rw [transomref04_CmpRow.s0c_bind]
        exact h
      · simp at h
    · refine seg_of_ev (E := env_transomref04_CmpRow (transomref04_Cmp.f k) (transomref04_order.f k) (transomref04_CmpRow.s0 k) (transomref04_CmpRow.s1 k) (transomref04_CmpRow.s2 k)) (transomref04_CmpRow.envok _ _ _ _ _  (transomref04_Cmp.ok k) (transomref04_order.ok k)) ⟨(transomref04_CmpRow.is (transomref04_Cmp.f k) (transomref04_order.f k) (transomref04_CmpRow.s0 k) (transomref04_CmpRow.s1 k) (transomref04_CmpRow.s2 k)).rvs⟩ ih ?_
      intro tvs blks res h
      simp only [seg_transomref04_CmpRow_1] at h
      split at h
      · refine (transomref04_CmpRow.s1_ev (transomref04_Cmp.f k) (transomref04_order.f k) (transomref04_CmpRow.s0 k) (transomref04_CmpRow.s1 k) (transomref04_CmpRow.s2 k) _ _ _ _ ).trans ?_
        rw [transomref04_CmpRow.s1c_bind]
        exact h
      · simp at h
    · refine seg_of_ev (E := env_transomref04_CmpRow (transomref04_Cmp.f k) (transomref04_order.f k) (transomref04_CmpRow.s0 k) (transomref04_CmpRow.s1 k) (transomref04_CmpRow.s2 k)) (transomref04_CmpRow.envok _ _ _ _ _  (transomref04_Cmp.ok k) (transomref04_order.ok k)) ⟨(transomref04_CmpRow.is (transomref04_Cmp.f k) (transomref04_order.f k) (transomref04_CmpRow.s0 k) (transomref04_CmpRow.s1 k) (transomref04_CmpRow.s2 k)).rvs⟩ ih ?_
      intro tvs blks res h
      simp only [seg_transomref04_CmpRow_2] at h
      split at h
      · refine (transomref04_CmpRow.s2_ev (transomref04_Cmp.f k) (transomref04_order.f k) (transomref04_CmpRow.s0 k) (transomref04_CmpRow.s1 k) (transomref04_CmpRow.s2 k) _ _ _ ).trans ?_
        rw [transomref04_CmpRow.s2c_bind]
        exact h
      · simp at h
theorem transomref04_CmpRow.ok (k : Nat) : CtOK Go.Proofs.Try.prog 23 (ct_transomref04_CmpRow (transomref04_CmpRow.f k)) := by
  refine ct_of_ev (E := env_transomref04_CmpRow (transomref04_Cmp.f k) (transomref04_order.f k) (transomref04_CmpRow.s0 k) (transomref04_CmpRow.s1 k) (transomref04_CmpRow.s2 k)) (transomref04_CmpRow.is _ _ _ _ _ ) (transomref04_CmpRow.envok _ _ _ _ _  (transomref04_Cmp.ok k) (transomref04_order.ok k)) (transomref04_CmpRow.segs_ok k) rfl ?_
  intro tvs blks res h
  simp only [ct_transomref04_CmpRow] at h
  split at h
  · refine (transomref04_CmpRow.ev (transomref04_Cmp.f k) (transomref04_order.f k) (transomref04_CmpRow.s0 k) (transomref04_CmpRow.s1 k) (transomref04_CmpRow.s2 k) _ _ ).trans ?_
    rw [transomref04_CmpRow.c_bind]
    exact h
  · simp at h

/-! ### cmp_Or_int: function 41 -/
def ct_cmp_Or_int (g : (List Int) → Option Int) : Ct where
  nin := 0
  mv := []
  F := fun tvs blks {β} K => match tvs, blks with
    | [.v (.one (.d (.sl (.int .i64)) a0))], [] => (g a0).bind fun r => K ⟨.v (.one (.d (.int .i64) r)), []⟩
    | _, _ => none
  legit := fun tvs blks K r h => by
    split at h
    · obtain ⟨x, hx, hk⟩ := Option.bind_eq_some_iff.1 h
      refine ⟨_, ?_, hk⟩
      simp only [hx, Option.bind_some]
    · simp at h
def seg_cmp_Or_int_0 (g : Int → (List Int) → Int → Int → Option Int) : Seg where
  path := [4, 1, 0, 1, 1]
  prep := []
  keep := [3, 6, 7, 8]
  F := fun tvs blks {β} K => match tvs, blks with
    | [.v (.one (.d (.int .i64) x0)), .v (.one (.d (.sl (.int .i64)) x1)), .v (.one (.d (.int .i64) x2)), .v (.one (.d (.int .i64) x3))], [] => (g x0 x1 x2 x3).bind fun r => K ⟨.v (.one (.d (.int .i64) r)), []⟩
    | _, _ => none
  legit := fun tvs blks K r h => by
    split at h
    · obtain ⟨x, hx, hk⟩ := Option.bind_eq_some_iff.1 h
      refine ⟨_, ?_, hk⟩
      simp only [hx, Option.bind_some]
    · simp at h
noncomputable def env_cmp_Or_int  (s0 : Int → (List Int) → Int → Int → Option Int) : FEnv := { P := Go.Proofs.Try.prog, ct := fun m => none, N := 18, body := Go.Proofs.Try.f41.body.getD .skip, rvs := [.tmp 2], rts := [3], nin := 0, rmv := [], segs := [seg_cmp_Or_int_0 s0] }
def cmp_Or_int.c {β : Type}  (s0 : Int → (List Int) → Int → Int → Option Int) (a0 : List Int) (ret : Int → Option β) : Option β := ((s0 (0 : Int) a0 ((List.length a0) : Int) (0 : Int)).bind ret)
def cmp_Or_int.s0c {β : Type}  (s0 : Int → (List Int) → Int → Int → Option Int) (x0 : Int) (x1 : List Int) (x2 : Int) (x3 : Int) (ret : Int → Option β) : Option β := (bif (decide (x3 < x2)) then (bif ((decide ((0 : Int) ≤ x3)) && (decide (x3 < ((List.length x1) : Int)))) then (bif ((elem (Ty.int IntKind.i64) x1 x3) != x0) then (ret ((elem (Ty.int IntKind.i64) x1 x3))) else ((s0 x0 x1 x2 (IntKind.wrap IntKind.i64 (x3 + (1 : Int)))).bind ret)) else none) else (ret (x0)))
theorem cmp_Or_int.c_bind {β : Type}  (s0 : Int → (List Int) → Int → Int → Option Int) (a0 : List Int) (ret : Int → Option β) : cmp_Or_int.c  s0 a0 ret = (cmp_Or_int.c  s0 a0 some).bind ret := by
  simp only [cmp_Or_int.c, bif_bind, sum_bind, Option.bind_assoc, Option.bind_some, Option.bind_none, Option.bind_fun_some]
theorem cmp_Or_int.s0c_bind {β : Type}  (s0 : Int → (List Int) → Int → Int → Option Int) (x0 : Int) (x1 : List Int) (x2 : Int) (x3 : Int) (ret : Int → Option β) : cmp_Or_int.s0c  s0 x0 x1 x2 x3 ret = (cmp_Or_int.s0c  s0 x0 x1 x2 x3 some).bind ret := by
  simp only [cmp_Or_int.s0c, bif_bind, sum_bind, Option.bind_assoc, Option.bind_some, Option.bind_none, Option.bind_fun_some]
theorem cmp_Or_int.ev  (s0 : Int → (List Int) → Int → Int → Option Int) (a0 : List Int) : evAt (env_cmp_Or_int  s0) [] [0] [.v (.one (.d (.sl (.int .i64)) a0))] [] some = cmp_Or_int.c  s0 a0 (fun r => some ⟨.v (.one (.d (.int .i64) r)), []⟩) := by
  kernel_rfl
theorem cmp_Or_int.s0_ev  (s0 : Int → (List Int) → Int → Int → Option Int) (x0 : Int) (x1 : List Int) (x2 : Int) (x3 : Int) : evAt (env_cmp_Or_int  s0) [4, 1, 0, 1, 1] [3, 6, 7, 8] [.v (.one (.d (.int .i64) x0)), .v (.one (.d (.sl (.int .i64)) x1)), .v (.one (.d (.int .i64) x2)), .v (.one (.d (.int .i64) x3))] [] some = cmp_Or_int.s0c  s0 x0 x1 x2 x3 (fun r => some ⟨.v (.one (.d (.int .i64) r)), []⟩) := by
  kernel_rfl
def cmp_Or_int.s0 : Nat → Int → (List Int) → Int → Int → Option Int
  | 0, _, _, _, _ => none
  | k + 1, x0, x1, x2, x3 => cmp_Or_int.s0c  (cmp_Or_int.s0 k) x0 x1 x2 x3 some
def cmp_Or_int.f (k : Nat) (a0 : List Int) : Option Int := cmp_Or_int.c  (cmp_Or_int.s0 k) a0 some
theorem cmp_Or_int.is  (s0 : Int → (List Int) → Int → Int → Option Int) : FnIs (env_cmp_Or_int  s0) 41 Go.Proofs.Try.f41 := ⟨Go.Proofs.Try.func41, rfl, rfl, rfl, by decide⟩
theorem cmp_Or_int.envok  (s0 : Int → (List Int) → Int → Int → Option Int)  : EnvOK (env_cmp_Or_int  s0).toEnv := by
  intro f c h
  simp only [env_cmp_Or_int] at h
  simp at h
theorem cmp_Or_int.segs_ok : ∀ k, ∀ s ∈ (env_cmp_Or_int  (cmp_Or_int.s0 k)).segs, SegOK (env_cmp_Or_int  (cmp_Or_int.s0 k)) Go.Proofs.Try.f41 s
  | 0 => by
    intro s hs
    simp only [env_cmp_Or_int, List.mem_cons, List.not_mem_nil, or_false] at hs
    rcases hs with rfl
    · intro tvs blks res h; exfalso; simp only [seg_cmp_Or_int_0] at h; split at h <;> simp [cmp_Or_int.s0] at h
  | k + 1 => by
    have ih := cmp_Or_int.segs_ok k
    intro s hs
    simp only [env_cmp_Or_int, List.mem_cons, List.not_mem_nil, or_false] at hs
    rcases hs with rfl
    · refine seg_of_ev (E := env_cmp_Or_int  (cmp_Or_int.s0 k)) (cmp_Or_int.envok _  ) ⟨(cmp_Or_int.is  (cmp_Or_int.s0 k)).rvs⟩ ih ?_
      intro tvs blks res h
      simp only [seg_cmp_Or_int_0] at h
      split at h
      · refine (cmp_Or_int.s0_ev  (cmp_Or_int.s0 k) _ _ _ _ ).trans ?_
        rw [cmp_Or_int.s0c_bind]
        exact h
      · simp at h
theorem cmp_Or_int.ok (k : Nat) : CtOK Go.Proofs.Try.prog 41 (ct_cmp_Or_int (cmp_Or_int.f k)) := by
  refine ct_of_ev (E := env_cmp_Or_int  (cmp_Or_int.s0 k)) (cmp_Or_int.is _ ) (cmp_Or_int.envok _  ) (cmp_Or_int.segs_ok k) rfl ?_
  intro tvs blks res h
  simp only [ct_cmp_Or_int] at h
  split at h
  · refine (cmp_Or_int.ev  (cmp_Or_int.s0 k) _ ).trans ?_
    rw [cmp_Or_int.c_bind]
    exact h
  · simp at h

/-! ### cmp_isNaN_int: function 55 -/
def ct_cmp_isNaN_int (g : Int → Option Bool) : Ct where
  nin := 0
  mv := []
  F := fun tvs blks {β} K => match tvs, blks with
    | [.v (.one (.d (.int .i64) a0))], [] => (g a0).bind fun r => K ⟨.v (.one (.d .bool r)), []⟩
    | _, _ => none
  legit := fun tvs blks K r h => by
    split at h
    · obtain ⟨x, hx, hk⟩ := Option.bind_eq_some_iff.1 h
      refine ⟨_, ?_, hk⟩
      simp only [hx, Option.bind_some]
    · simp at h
noncomputable def env_cmp_isNaN_int   : FEnv := { P := Go.Proofs.Try.prog, ct := fun m => none, N := 6, body := Go.Proofs.Try.f55.body.getD .skip, rvs := [.tmp 2], rts := [4], nin := 0, rmv := [], segs := [] }
def cmp_isNaN_int.c {β : Type}   (a0 : Int) (ret : Bool → Option β) : Option β := (ret ((a0 != a0)))
theorem cmp_isNaN_int.c_bind {β : Type}   (a0 : Int) (ret : Bool → Option β) : cmp_isNaN_int.c   a0 ret = (cmp_isNaN_int.c   a0 some).bind ret := by
  simp only [cmp_isNaN_int.c, bif_bind, sum_bind, Option.bind_assoc, Option.bind_some, Option.bind_none, Option.bind_fun_some]
theorem cmp_isNaN_int.ev   (a0 : Int) : evAt (env_cmp_isNaN_int  ) [] [0] [.v (.one (.d (.int .i64) a0))] [] some = cmp_isNaN_int.c   a0 (fun r => some ⟨.v (.one (.d .bool r)), []⟩) := by
  kernel_rfl
def cmp_isNaN_int.f (k : Nat) (a0 : Int) : Option Bool := cmp_isNaN_int.c   a0 some
theorem cmp_isNaN_int.is   : FnIs (env_cmp_isNaN_int  ) 55 Go.Proofs.Try.f55 := ⟨Go.Proofs.Try.func55, rfl, rfl, rfl, by decide⟩
theorem cmp_isNaN_int.envok    : EnvOK (env_cmp_isNaN_int  ).toEnv := by
  intro f c h
  simp only [env_cmp_isNaN_int] at h
  simp at h
theorem cmp_isNaN_int.ok (k : Nat) : CtOK Go.Proofs.Try.prog 55 (ct_cmp_isNaN_int (cmp_isNaN_int.f k)) := by
  refine ct_of_ev (E := env_cmp_isNaN_int  ) (cmp_isNaN_int.is ) (cmp_isNaN_int.envok  ) (fun s hs => by simp [env_cmp_isNaN_int] at hs) rfl ?_
  intro tvs blks res h
  simp only [ct_cmp_isNaN_int] at h
  split at h
  · refine (cmp_isNaN_int.ev   _ ).trans ?_
    rw [cmp_isNaN_int.c_bind]
    exact h
  · simp at h

/-! ### cmp_Compare_int: function 42 -/
def ct_cmp_Compare_int (g : Int → Int → Option Int) : Ct where
  nin := 0
  mv := []
  F := fun tvs blks {β} K => match tvs, blks with
    | [.v (.one (.d (.int .i64) a0)), .v (.one (.d (.int .i64) a1))], [] => (g a0 a1).bind fun r => K ⟨.v (.one (.d (.int .i64) r)), []⟩
    | _, _ => none
  legit := fun tvs blks K r h => by
    split at h
    · obtain ⟨x, hx, hk⟩ := Option.bind_eq_some_iff.1 h
      refine ⟨_, ?_, hk⟩
      simp only [hx, Option.bind_some]
    · simp at h
noncomputable def env_cmp_Compare_int (g55 : Int → Option Bool)  : FEnv := { P := Go.Proofs.Try.prog, ct := fun m => if m = 55 then some (ct_cmp_isNaN_int g55) else none, N := 20, body := Go.Proofs.Try.f42.body.getD .skip, rvs := [.tmp 4], rts := [3], nin := 0, rmv := [], segs := [] }
def cmp_Compare_int.c {β : Type} (g55 : Int → Option Bool)  (a0 : Int) (a1 : Int) (ret : Int → Option β) : Option β := ((g55 a0).bind fun r0 => ((g55 a1).bind fun r1 => (bif r0 then (bif r1 then (ret ((0 : Int))) else (ret ((-1 : Int)))) else (bif r1 then (ret ((1 : Int))) else (bif (decide (a0 < a1)) then (ret ((-1 : Int))) else (bif (decide (a0 > a1)) then (ret ((1 : Int))) else (ret ((0 : Int)))))))))
theorem cmp_Compare_int.c_bind {β : Type} (g55 : Int → Option Bool)  (a0 : Int) (a1 : Int) (ret : Int → Option β) : cmp_Compare_int.c g55  a0 a1 ret = (cmp_Compare_int.c g55  a0 a1 some).bind ret := by
  simp only [cmp_Compare_int.c, bif_bind, sum_bind, Option.bind_assoc, Option.bind_some, Option.bind_none, Option.bind_fun_some]
theorem cmp_Compare_int.ev (g55 : Int → Option Bool)  (a0 : Int) (a1 : Int) : evAt (env_cmp_Compare_int g55 ) [] [0, 1] [.v (.one (.d (.int .i64) a0)), .v (.one (.d (.int .i64) a1))] [] some = cmp_Compare_int.c g55  a0 a1 (fun r => some ⟨.v (.one (.d (.int .i64) r)), []⟩) := by
  kernel_rfl
def cmp_Compare_int.f (k : Nat) (a0 : Int) (a1 : Int) : Option Int := cmp_Compare_int.c (cmp_isNaN_int.f k)  a0 a1 some
theorem cmp_Compare_int.is (g55 : Int → Option Bool)  : FnIs (env_cmp_Compare_int g55 ) 42 Go.Proofs.Try.f42 := ⟨Go.Proofs.Try.func42, rfl, rfl, rfl, by decide⟩
theorem cmp_Compare_int.envok (g55 : Int → Option Bool)  (h55 : CtOK Go.Proofs.Try.prog 55 (ct_cmp_isNaN_int g55)) : EnvOK (env_cmp_Compare_int g55 ).toEnv := by
  intro f c h
  simp only [env_cmp_Compare_int] at h
  split at h
  · rename_i e; subst e; cases h; exact h55
  simp at h
theorem cmp_Compare_int.ok (k : Nat) : CtOK Go.Proofs.Try.prog 42 (ct_cmp_Compare_int (cmp_Compare_int.f k)) := by
  refine ct_of_ev (E := env_cmp_Compare_int (cmp_isNaN_int.f k) ) (cmp_Compare_int.is _ ) (cmp_Compare_int.envok _  (cmp_isNaN_int.ok k)) (fun s hs => by simp [env_cmp_Compare_int] at hs) rfl ?_
  intro tvs blks res h
  simp only [ct_cmp_Compare_int] at h
  split at h
  · refine (cmp_Compare_int.ev (cmp_isNaN_int.f k)  _ _ ).trans ?_
    rw [cmp_Compare_int.c_bind]
    exact h
  · simp at h

/-! ### reals_Cmp: function 43 -/
def ct_reals_Cmp (g : Int → Int → Option Int) : Ct where
  nin := 0
  mv := []
  F := fun tvs blks {β} K => match tvs, blks with
    | [.v (.one (.d (.int .u64) a0)), .v (.one (.d (.int .u64) a1))], [] => (g a0 a1).bind fun r => K ⟨.v (.one (.d (.int .i64) r)), []⟩
    | _, _ => none
  legit := fun tvs blks K r h => by
    split at h
    · obtain ⟨x, hx, hk⟩ := Option.bind_eq_some_iff.1 h
      refine ⟨_, ?_, hk⟩
      simp only [hx, Option.bind_some]
    · simp at h
noncomputable def env_reals_Cmp (g52 : Int → Option Int)  : FEnv := { P := Go.Proofs.Try.prog, ct := fun m => if m = 52 then some (ct_reals_Key g52) else none, N := 19, body := Go.Proofs.Try.f43.body.getD .skip, rvs := [.tmp 4], rts := [3], nin := 0, rmv := [], segs := [] }
def reals_Cmp.c {β : Type} (g52 : Int → Option Int)  (a0 : Int) (a1 : Int) (ret : Int → Option β) : Option β := ((g52 a0).bind fun r0 => ((g52 a1).bind fun r1 => (bif (decide (r0 < r1)) then (ret ((-1 : Int))) else (bif (decide (r0 > r1)) then (ret ((1 : Int))) else (ret ((0 : Int)))))))
theorem reals_Cmp.c_bind {β : Type} (g52 : Int → Option Int)  (a0 : Int) (a1 : Int) (ret : Int → Option β) : reals_Cmp.c g52  a0 a1 ret = (reals_Cmp.c g52  a0 a1 some).bind ret := by
  simp only [reals_Cmp.c, bif_bind, sum_bind, Option.bind_assoc, Option.bind_some, Option.bind_none, Option.bind_fun_some]
theorem reals_Cmp.ev (g52 : Int → Option Int)  (a0 : Int) (a1 : Int) : evAt (env_reals_Cmp g52 ) [] [0, 1] [.v (.one (.d (.int .u64) a0)), .v (.one (.d (.int .u64) a1))] [] some = reals_Cmp.c g52  a0 a1 (fun r => some ⟨.v (.one (.d (.int .i64) r)), []⟩) := by
  kernel_rfl
def reals_Cmp.f (k : Nat) (a0 : Int) (a1 : Int) : Option Int := reals_Cmp.c (reals_Key.f k)  a0 a1 some
theorem reals_Cmp.is (g52 : Int → Option Int)  : FnIs (env_reals_Cmp g52 ) 43 Go.Proofs.Try.f43 := ⟨Go.Proofs.Try.func43, rfl, rfl, rfl, by decide⟩
theorem reals_Cmp.envok (g52 : Int → Option Int)  (h52 : CtOK Go.Proofs.Try.prog 52 (ct_reals_Key g52)) : EnvOK (env_reals_Cmp g52 ).toEnv := by
  intro f c h
  simp only [env_reals_Cmp] at h
  split at h
  · rename_i e; subst e; cases h; exact h52
  simp at h
theorem reals_Cmp.ok (k : Nat) : CtOK Go.Proofs.Try.prog 43 (ct_reals_Cmp (reals_Cmp.f k)) := by
  refine ct_of_ev (E := env_reals_Cmp (reals_Key.f k) ) (reals_Cmp.is _ ) (reals_Cmp.envok _  (reals_Key.ok k)) (fun s hs => by simp [env_reals_Cmp] at hs) rfl ?_
  intro tvs blks res h
  simp only [ct_reals_Cmp] at h
  split at h
  · refine (reals_Cmp.ev (reals_Key.f k)  _ _ ).trans ?_
    rw [reals_Cmp.c_bind]
    exact h
  · simp at h

/-! ### bytealg_abigen_runtime_cmpstring: function 62 (no body) -/
def ct_bytealg_abigen_runtime_cmpstring (g : ByteArray → ByteArray → Option Int) : Ct where
  nin := 0
  mv := []
  F := fun tvs blks {β} K => match tvs, blks with
    | [.v (.one (.d .str a0)), .v (.one (.d .str a1))], [] => (g a0 a1).bind fun r => K ⟨.v (.one (.d (.int .i64) r)), []⟩
    | _, _ => none
  legit := fun tvs blks K r h => by
    split at h
    · obtain ⟨x, hx, hk⟩ := Option.bind_eq_some_iff.1 h
      refine ⟨_, ?_, hk⟩
      simp only [hx, Option.bind_some]
    · simp at h
def bytealg_abigen_runtime_cmpstring.f (k : Nat) (a0 : ByteArray) (a1 : ByteArray) : Option Int := some (Lib.compareBytes a0.data.toList a1.data.toList)
theorem bytealg_abigen_runtime_cmpstring.ok (k : Nat) : CtOK Go.Proofs.Try.prog 62 (ct_bytealg_abigen_runtime_cmpstring (bytealg_abigen_runtime_cmpstring.f k)) := by
  refine ct_extern ?_
  intro tvs blks res h
  simp only [ct_bytealg_abigen_runtime_cmpstring] at h
  split at h
  · simp only [bytealg_abigen_runtime_cmpstring.f, Option.bind_some, Option.some.injEq] at h; subst h
    rename_i a0 a1
    refine ⟨.int .i64 (Lib.compareBytes a0.data.toList a1.data.toList), ?_, rfl, rfl⟩
    intro w S ρ H vals hm hv
    obtain ⟨v0, m0, rfl, h0, hv⟩ := All2.cons_left hv
    obtain ⟨v1, m1, rfl, h1, hv⟩ := All2.cons_left hv
    cases All2.nil_left hv
    simp only [RepTV, RepVV, RepAV, Rd, List.cons.injEq, and_true] at h0 h1
    subst h0; subst h1
    exact ⟨(run_callFunc_extern (e := Extern.BytealgCompare.compare) Go.Proofs.Try.func62 (by kernel_rfl) (by kernel_rfl) (by kernel_rfl) (by kernel_rfl) #[.string a0, .string a1] w).trans (by rw [Lib.run_compareString]; rfl), rfl⟩
  · simp at h
end Go.Proofs.Ytpcojbnoadnknaa.Aev
