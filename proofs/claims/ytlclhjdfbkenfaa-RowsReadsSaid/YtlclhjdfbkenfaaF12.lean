/- By a program of this session (AEV): functions of the program as plain functions, and that the machine does what they say. -/
import Derived.Test.YtlclhjdfbkenfaaAevW
import Derived.Test.YtlclhjdfbkenfaaProg
import Derived.Laws.Externs
import Derived.Lib.Bytealg
import Derived.Test.YtlclhjdfbkenfaaF8
import Derived.Test.YtlclhjdfbkenfaaF11
namespace Go.Proofs.Ytlclhjdfbkenfaa.Aev
set_option linter.unusedVariables false
set_option linter.unusedSimpArgs false
set_option maxRecDepth 100000
set_option maxHeartbeats 4000000
open Go
/-! ### transomref06_one: function 26 -/
def ct_transomref06_one (g : Int → Int → Int → ByteArray → Option ByteArray) : Ct where
  nin := 0
  mv := []
  F := fun tvs blks {β} K => match tvs, blks with
    | [.v (.agg [(.d (.int .i64) a0), (.d (.int .i64) a1), (.d (.int .u64) a2), (.d .str a3)])], [] => (g a0 a1 a2 a3).bind fun r => K ⟨.v (.one (.d .str r)), []⟩
    | _, _ => none
  legit := fun tvs blks K r h => by
    split at h
    · obtain ⟨x, hx, hk⟩ := Option.bind_eq_some_iff.1 h
      refine ⟨_, ?_, hk⟩
      simp only [hx, Option.bind_some]
    · simp at h
noncomputable def env_transomref06_one (g44 : Int → Option ByteArray) (g45 : Int → Option ByteArray) (g46 : ByteArray → Option ByteArray)  : FEnv := { P := Go.Proofs.Try.prog, ct := fun m => if m = 44 then some (ct_transomref03_Int g44) else if m = 45 then some (ct_transomref05_Eight g45) else if m = 46 then some (ct_transomref03_Text g46) else none, N := 43, body := Go.Proofs.Try.f26.body.getD .skip, rvs := [.tmp 2], rts := [9], nin := 0, rmv := [], segs := [] }
def transomref06_one.c {β : Type} (g44 : Int → Option ByteArray) (g45 : Int → Option ByteArray) (g46 : ByteArray → Option ByteArray)  (a0 : Int) (a1 : Int) (a2 : Int) (a3 : ByteArray) (ret : ByteArray → Option β) : Option β := (bif (a0 == (1 : Int)) then (ret (((ByteArray.mk (List.toArray (List.map (fun n => (UInt8.ofNat (Int.toNat n))) [(IntKind.wrap IntKind.u8 a0)]))) ++ (ByteArray.mk (List.toArray (List.map (fun n => (UInt8.ofNat (Int.toNat n))) [(IntKind.wrap IntKind.u8 a1)])))))) else (bif (a0 == (2 : Int)) then ((g44 a1).bind fun r0 => (bif (true && (decide ((ByteArray.size r0) ≤ (4611686018427387903 : Nat)))) then (ret (((ByteArray.mk (List.toArray (List.map (fun n => (UInt8.ofNat (Int.toNat n))) [(IntKind.wrap IntKind.u8 a0)]))) ++ r0))) else none)) else (bif (a0 == (3 : Int)) then ((g45 a2).bind fun r1 => (bif (true && (decide ((ByteArray.size r1) ≤ (4611686018427387903 : Nat)))) then (ret (((ByteArray.mk (List.toArray (List.map (fun n => (UInt8.ofNat (Int.toNat n))) [(IntKind.wrap IntKind.u8 a0)]))) ++ r1))) else none)) else (bif (a0 == (4 : Int)) then (bif (a0 == (4 : Int)) then ((g46 a3).bind fun r2 => (bif (true && (decide ((ByteArray.size r2) ≤ (4611686018427387903 : Nat)))) then (ret (((ByteArray.mk (List.toArray (List.map (fun n => (UInt8.ofNat (Int.toNat n))) [(IntKind.wrap IntKind.u8 a0)]))) ++ r2))) else none)) else (ret ((ByteArray.mk (List.toArray (List.map (fun n => (UInt8.ofNat (Int.toNat n))) [(IntKind.wrap IntKind.u8 a0)])))))) else (bif (a0 == (5 : Int)) then ((g46 a3).bind fun r3 => (bif (true && (decide ((ByteArray.size r3) ≤ (4611686018427387903 : Nat)))) then (ret (((ByteArray.mk (List.toArray (List.map (fun n => (UInt8.ofNat (Int.toNat n))) [(IntKind.wrap IntKind.u8 a0)]))) ++ r3))) else none)) else (ret ((ByteArray.mk (List.toArray (List.map (fun n => (UInt8.ofNat (Int.toNat n))) [(IntKind.wrap IntKind.u8 a0)]))))))))))
theorem transomref06_one.c_bind {β : Type} (g44 : Int → Option ByteArray) (g45 : Int → Option ByteArray) (g46 : ByteArray → Option ByteArray)  (a0 : Int) (a1 : Int) (a2 : Int) (a3 : ByteArray) (ret : ByteArray → Option β) : transomref06_one.c g44 g45 g46  a0 a1 a2 a3 ret = (transomref06_one.c g44 g45 g46  a0 a1 a2 a3 some).bind ret := by
  simp only [transomref06_one.c, bif_bind, sum_bind, Option.bind_assoc, Option.bind_some, Option.bind_none, Option.bind_fun_some]
theorem transomref06_one.ev (g44 : Int → Option ByteArray) (g45 : Int → Option ByteArray) (g46 : ByteArray → Option ByteArray)  (a0 : Int) (a1 : Int) (a2 : Int) (a3 : ByteArray) : evAt (env_transomref06_one g44 g45 g46 ) [] [0] [.v (.agg [(.d (.int .i64) a0), (.d (.int .i64) a1), (.d (.int .u64) a2), (.d .str a3)])] [] some = transomref06_one.c g44 g45 g46  a0 a1 a2 a3 (fun r => some ⟨.v (.one (.d .str r)), []⟩) := by
  kernel_rfl
def transomref06_one.f (k : Nat) (a0 : Int) (a1 : Int) (a2 : Int) (a3 : ByteArray) : Option ByteArray := transomref06_one.c (transomref03_Int.f k) (transomref05_Eight.f k) (transomref03_Text.f k)  a0 a1 a2 a3 some
theorem transomref06_one.is (g44 : Int → Option ByteArray) (g45 : Int → Option ByteArray) (g46 : ByteArray → Option ByteArray)  : FnIs (env_transomref06_one g44 g45 g46 ) 26 Go.Proofs.Try.f26 := ⟨Go.Proofs.Try.func26, rfl, rfl, rfl, by decide⟩
theorem transomref06_one.envok (g44 : Int → Option ByteArray) (g45 : Int → Option ByteArray) (g46 : ByteArray → Option ByteArray)  (h44 : CtOK Go.Proofs.Try.prog 44 (ct_transomref03_Int g44)) (h45 : CtOK Go.Proofs.Try.prog 45 (ct_transomref05_Eight g45)) (h46 : CtOK Go.Proofs.Try.prog 46 (ct_transomref03_Text g46)) : EnvOK (env_transomref06_one g44 g45 g46 ).toEnv := by
  intro f c h
  simp only [env_transomref06_one] at h
  split at h
  · rename_i e; subst e; cases h; exact h44
  split at h
  · rename_i e; subst e; cases h; exact h45
  split at h
  · rename_i e; subst e; cases h; exact h46
  simp at h
theorem transomref06_one.ok (k : Nat) : CtOK Go.Proofs.Try.prog 26 (ct_transomref06_one (transomref06_one.f k)) := by
  refine ct_of_ev (E := env_transomref06_one (transomref03_Int.f k) (transomref05_Eight.f k) (transomref03_Text.f k) ) (transomref06_one.is _ _ _ ) (transomref06_one.envok _ _ _  (transomref03_Int.ok k) (transomref05_Eight.ok k) (transomref03_Text.ok k)) (fun s hs => by simp [env_transomref06_one] at hs) rfl ?_
  intro tvs blks res h
  simp only [ct_transomref06_one] at h
  split at h
  · refine (transomref06_one.ev (transomref03_Int.f k) (transomref05_Eight.f k) (transomref03_Text.f k)  _ _ _ _ ).trans ?_
    rw [transomref06_one.c_bind]
    exact h
  · simp at h

/-! ### transomref06_Put: function 11 -/
def ct_transomref06_Put (g : (List (Int × (Int × (Int × (ByteArray × Unit))))) → Option (ByteArray × Int)) : Ct where
  nin := 0
  mv := []
  F := fun tvs blks {β} K => match tvs, blks with
    | [.v (.one (.d (.sl (.pair (.int .i64) (.pair (.int .i64) (.pair (.int .u64) (.pair .str .unit))))) a0))], [] => (g a0).bind fun r => K ⟨.tup [(.one (.d .str r.1)), (.one (.d (.int .i64) r.2))], []⟩
    | _, _ => none
  legit := fun tvs blks K r h => by
    split at h
    · obtain ⟨x, hx, hk⟩ := Option.bind_eq_some_iff.1 h
      refine ⟨_, ?_, hk⟩
      simp only [hx, Option.bind_some]
    · simp at h
def seg_transomref06_Put_0 (g : (List (Int × (Int × (Int × (ByteArray × Unit))))) → ByteArray → Int → Option (ByteArray × Int)) : Seg where
  path := [4, 1, 0, 1, 1, 1]
  prep := []
  keep := [0, 4, 5]
  F := fun tvs blks {β} K => match tvs, blks with
    | [.v (.one (.d (.sl (.pair (.int .i64) (.pair (.int .i64) (.pair (.int .u64) (.pair .str .unit))))) x0)), .v (.one (.d .str x1)), .v (.one (.d (.int .i64) x2))], [] => (g x0 x1 x2).bind fun r => K ⟨.tup [(.one (.d .str r.1)), (.one (.d (.int .i64) r.2))], []⟩
    | _, _ => none
  legit := fun tvs blks K r h => by
    split at h
    · obtain ⟨x, hx, hk⟩ := Option.bind_eq_some_iff.1 h
      refine ⟨_, ?_, hk⟩
      simp only [hx, Option.bind_some]
    · simp at h
noncomputable def env_transomref06_Put (g24 : Int → Option ByteArray) (g25 : Int → Int → Int → ByteArray → Option Int) (g26 : Int → Int → Int → ByteArray → Option ByteArray) (s0 : (List (Int × (Int × (Int × (ByteArray × Unit))))) → ByteArray → Int → Option (ByteArray × Int)) : FEnv := { P := Go.Proofs.Try.prog, ct := fun m => if m = 24 then some (ct_transomref03_Uint g24) else if m = 25 then some (ct_transomref04_Check g25) else if m = 26 then some (ct_transomref06_one g26) else none, N := 36, body := Go.Proofs.Try.f11.body.getD .skip, rvs := [.tmp 2, .tmp 3], rts := [9, 3], nin := 0, rmv := [], segs := [seg_transomref06_Put_0 s0] }
def transomref06_Put.c {β : Type} (g24 : Int → Option ByteArray) (g25 : Int → Int → Int → ByteArray → Option Int) (g26 : Int → Int → Int → ByteArray → Option ByteArray) (s0 : (List (Int × (Int × (Int × (ByteArray × Unit))))) → ByteArray → Int → Option (ByteArray × Int)) (a0 : List (Int × (Int × (Int × (ByteArray × Unit))))) (ret : (ByteArray × Int) → Option β) : Option β := (bif (decide (((List.length a0) : Int) > (8 : Int))) then (ret ((ByteArray.mk (List.toArray [])), (2 : Int))) else ((g24 (IntKind.wrap IntKind.u64 ((List.length a0) : Int))).bind fun r0 => ((s0 a0 r0 (0 : Int)).bind ret)))
def transomref06_Put.s0c {β : Type} (g24 : Int → Option ByteArray) (g25 : Int → Int → Int → ByteArray → Option Int) (g26 : Int → Int → Int → ByteArray → Option ByteArray) (s0 : (List (Int × (Int × (Int × (ByteArray × Unit))))) → ByteArray → Int → Option (ByteArray × Int)) (x0 : List (Int × (Int × (Int × (ByteArray × Unit))))) (x1 : ByteArray) (x2 : Int) (ret : (ByteArray × Int) → Option β) : Option β := (bif (decide (x2 < ((List.length x0) : Int))) then (bif ((decide ((0 : Int) ≤ x2)) && (decide (x2 < ((List.length x0) : Int)))) then ((g25 (elem (Ty.pair (Ty.int IntKind.i64) (Ty.pair (Ty.int IntKind.i64) (Ty.pair (Ty.int IntKind.u64) (Ty.pair Ty.str Ty.unit)))) x0 x2).1 (elem (Ty.pair (Ty.int IntKind.i64) (Ty.pair (Ty.int IntKind.i64) (Ty.pair (Ty.int IntKind.u64) (Ty.pair Ty.str Ty.unit)))) x0 x2).2.1 (elem (Ty.pair (Ty.int IntKind.i64) (Ty.pair (Ty.int IntKind.i64) (Ty.pair (Ty.int IntKind.u64) (Ty.pair Ty.str Ty.unit)))) x0 x2).2.2.1 (elem (Ty.pair (Ty.int IntKind.i64) (Ty.pair (Ty.int IntKind.i64) (Ty.pair (Ty.int IntKind.u64) (Ty.pair Ty.str Ty.unit)))) x0 x2).2.2.2.1).bind fun r0 => (bif (r0 != (0 : Int)) then (ret ((ByteArray.mk (List.toArray [])), r0)) else (bif ((decide ((0 : Int) ≤ x2)) && (decide (x2 < ((List.length x0) : Int)))) then ((g26 (elem (Ty.pair (Ty.int IntKind.i64) (Ty.pair (Ty.int IntKind.i64) (Ty.pair (Ty.int IntKind.u64) (Ty.pair Ty.str Ty.unit)))) x0 x2).1 (elem (Ty.pair (Ty.int IntKind.i64) (Ty.pair (Ty.int IntKind.i64) (Ty.pair (Ty.int IntKind.u64) (Ty.pair Ty.str Ty.unit)))) x0 x2).2.1 (elem (Ty.pair (Ty.int IntKind.i64) (Ty.pair (Ty.int IntKind.i64) (Ty.pair (Ty.int IntKind.u64) (Ty.pair Ty.str Ty.unit)))) x0 x2).2.2.1 (elem (Ty.pair (Ty.int IntKind.i64) (Ty.pair (Ty.int IntKind.i64) (Ty.pair (Ty.int IntKind.u64) (Ty.pair Ty.str Ty.unit)))) x0 x2).2.2.2.1).bind fun r1 => (bif ((decide ((ByteArray.size x1) ≤ (4611686018427387903 : Nat))) && (decide ((ByteArray.size r1) ≤ (4611686018427387903 : Nat)))) then ((s0 x0 (x1 ++ r1) (IntKind.wrap IntKind.i64 (x2 + (1 : Int)))).bind ret) else none)) else none))) else none) else (ret (x1, (0 : Int))))
theorem transomref06_Put.c_bind {β : Type} (g24 : Int → Option ByteArray) (g25 : Int → Int → Int → ByteArray → Option Int) (g26 : Int → Int → Int → ByteArray → Option ByteArray) (s0 : (List (Int × (Int × (Int × (ByteArray × Unit))))) → ByteArray → Int → Option (ByteArray × Int)) (a0 : List (Int × (Int × (Int × (ByteArray × Unit))))) (ret : (ByteArray × Int) → Option β) : transomref06_Put.c g24 g25 g26 s0 a0 ret = (transomref06_Put.c g24 g25 g26 s0 a0 some).bind ret := by
  simp only [transomref06_Put.c, bif_bind, sum_bind, Option.bind_assoc, Option.bind_some, Option.bind_none, Option.bind_fun_some]
theorem transomref06_Put.s0c_bind {β : Type} (g24 : Int → Option ByteArray) (g25 : Int → Int → Int → ByteArray → Option Int) (g26 : Int → Int → Int → ByteArray → Option ByteArray) (s0 : (List (Int × (Int × (Int × (ByteArray × Unit))))) → ByteArray → Int → Option (ByteArray × Int)) (x0 : List (Int × (Int × (Int × (ByteArray × Unit))))) (x1 : ByteArray) (x2 : Int) (ret : (ByteArray × Int) → Option β) : transomref06_Put.s0c g24 g25 g26 s0 x0 x1 x2 ret = (transomref06_Put.s0c g24 g25 g26 s0 x0 x1 x2 some).bind ret := by
  simp only [transomref06_Put.s0c, bif_bind, sum_bind, Option.bind_assoc, Option.bind_some, Option.bind_none, Option.bind_fun_some]
theorem transomref06_Put.ev (g24 : Int → Option ByteArray) (g25 : Int → Int → Int → ByteArray → Option Int) (g26 : Int → Int → Int → ByteArray → Option ByteArray) (s0 : (List (Int × (Int × (Int × (ByteArray × Unit))))) → ByteArray → Int → Option (ByteArray × Int)) (a0 : List (Int × (Int × (Int × (ByteArray × Unit))))) : evAt (env_transomref06_Put g24 g25 g26 s0) [] [0] [.v (.one (.d (.sl (.pair (.int .i64) (.pair (.int .i64) (.pair (.int .u64) (.pair .str .unit))))) a0))] [] some = transomref06_Put.c g24 g25 g26 s0 a0 (fun r => some ⟨.tup [(.one (.d .str r.1)), (.one (.d (.int .i64) r.2))], []⟩) := by
  kernel_rfl
theorem transomref06_Put.s0_ev (g24 : Int → Option ByteArray) (g25 : Int → Int → Int → ByteArray → Option Int) (g26 : Int → Int → Int → ByteArray → Option ByteArray) (s0 : (List (Int × (Int × (Int × (ByteArray × Unit))))) → ByteArray → Int → Option (ByteArray × Int)) (x0 : List (Int × (Int × (Int × (ByteArray × Unit))))) (x1 : ByteArray) (x2 : Int) : evAt (env_transomref06_Put g24 g25 g26 s0) [4, 1, 0, 1, 1, 1] [0, 4, 5] [.v (.one (.d (.sl (.pair (.int .i64) (.pair (.int .i64) (.pair (.int .u64) (.pair .str .unit))))) x0)), .v (.one (.d .str x1)), .v (.one (.d (.int .i64) x2))] [] some = transomref06_Put.s0c g24 g25 g26 s0 x0 x1 x2 (fun r => some ⟨.tup [(.one (.d .str r.1)), (.one (.d (.int .i64) r.2))], []⟩) := by
  kernel_rfl
def transomref06_Put.s0 : Nat → (List (Int × (Int × (Int × (ByteArray × Unit))))) → ByteArray → Int → Option (ByteArray × Int)
  | 0, _, _, _ => none
  | k + 1, x0, x1, x2 => transomref06_Put.s0c (transomref03_Uint.f k) (transomref04_Check.f k) (transomref06_one.f k) (transomref06_Put.s0 k) x0 x1 x2 some
def transomref06_Put.f (k : Nat) (a0 : List (Int × (Int × (Int × (ByteArray × Unit))))) : Option (ByteArray × Int) := transomref06_Put.c (transomref03_Uint.f k) (transomref04_Check.f k) (transomref06_one.f k) (transomref06_Put.s0 k) a0 some
theorem transomref06_Put.is (g24 : Int → Option ByteArray) (g25 : Int → Int → Int → ByteArray → Option Int) (g26 : Int → Int → Int → ByteArray → Option ByteArray) (s0 : (List (Int × (Int × (Int × (ByteArray × Unit))))) → ByteArray → Int → Option (ByteArray × Int)) : FnIs (env_transomref06_Put g24 g25 g26 s0) 11 Go.Proofs.Try.f11 := ⟨Go.Proofs.Try.func11, rfl, rfl, rfl, by decide⟩
theorem transomref06_Put.envok (g24 : Int → Option ByteArray) (g25 : Int → Int → Int → ByteArray → Option Int) (g26 : Int → Int → Int → ByteArray → Option ByteArray) (s0 : (List (Int × (Int × (Int × (ByteArray × Unit))))) → ByteArray → Int → Option (ByteArray × Int)) (h24 : CtOK Go.Proofs.Try.prog 24 (ct_transomref03_Uint g24)) (h25 : CtOK Go.Proofs.Try.prog 25 (ct_transomref04_Check g25)) (h26 : CtOK Go.Proofs.Try.prog 26 (ct_transomref06_one g26)) : EnvOK (env_transomref06_Put g24 g25 g26 s0).toEnv := by
  intro f c h
  simp only [env_transomref06_Put] at h
  split at h
  · rename_i e; subst e; cases h; exact h24
  split at h
  · rename_i e; subst e; cases h; exact h25
  split at h
  · rename_i e; subst e; cases h; exact h26
  simp at h
theorem transomref06_Put.segs_ok : ∀ k, ∀ s ∈ (env_transomref06_Put (transomref03_Uint.f k) (transomref04_Check.f k) (transomref06_one.f k) (transomref06_Put.s0 k)).segs, SegOK (env_transomref06_Put (transomref03_Uint.f k) (transomref04_Check.f k) (transomref06_one.f k) (transomref06_Put.s0 k)) Go.Proofs.Try.f11 s
  | 0 => by
    intro s hs
    simp only [env_transomref06_Put, List.mem_cons, List.not_mem_nil, or_false] at hs
    rcases hs with rfl
    · intro tvs blks res h; exfalso; simp only [seg_transomref06_Put_0] at h; split at h <;> simp [transomref06_Put.s0] at h
  | k + 1 => by
    have ih := transomref06_Put.segs_ok k
    intro s hs
    simp only [env_transomref06_Put, List.mem_cons, List.not_mem_nil, or_false] at hs
    rcases hs with rfl
    · refine seg_of_ev (E := env_transomref06_Put (transomref03_Uint.f k) (transomref04_Check.f k) (transomref06_one.f k) (transomref06_Put.s0 k)) (transomref06_Put.envok _ _ _ _  (transomref03_Uint.ok k) (transomref04_Check.ok k) (transomref06_one.ok k)) ⟨(transomref06_Put.is (transomref03_Uint.f k) (transomref04_Check.f k) (transomref06_one.f k) (transomref06_Put.s0 k)).rvs⟩ ih ?_
      intro tvs blks res h
      simp only [seg_transomref06_Put_0] at h
      split at h
      · refine (transomref06_Put.s0_ev (transomref03_Uint.f k) (transomref04_Check.f k) (transomref06_one.f k) (transomref06_Put.s0 k) _ _ _ ).trans ?_
        rw [transomref06_Put.s0c_bind]
        exact h
      · simp at h
theorem transomref06_Put.ok (k : Nat) : CtOK Go.Proofs.Try.prog 11 (ct_transomref06_Put (transomref06_Put.f k)) := by
  refine ct_of_ev (E := env_transomref06_Put (transomref03_Uint.f k) (transomref04_Check.f k) (transomref06_one.f k) (transomref06_Put.s0 k)) (transomref06_Put.is _ _ _ _ ) (transomref06_Put.envok _ _ _ _  (transomref03_Uint.ok k) (transomref04_Check.ok k) (transomref06_one.ok k)) (transomref06_Put.segs_ok k) rfl ?_
  intro tvs blks res h
  simp only [ct_transomref06_Put] at h
  split at h
  · refine (transomref06_Put.ev (transomref03_Uint.f k) (transomref04_Check.f k) (transomref06_one.f k) (transomref06_Put.s0 k) _ ).trans ?_
    rw [transomref06_Put.c_bind]
    exact h
  · simp at h
end Go.Proofs.Ytlclhjdfbkenfaa.Aev
