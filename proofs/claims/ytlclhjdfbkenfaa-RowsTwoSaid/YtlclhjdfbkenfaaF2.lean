/- By a program of this session (AEV): functions of the program as plain functions, and that the machine does what they say. -/
import Derived.Test.YtlclhjdfbkenfaaAevW
import Derived.Test.YtlclhjdfbkenfaaProg
import Derived.Laws.Externs
import Derived.Lib.Bytealg
import Derived.Test.YtlclhjdfbkenfaaF0
import Derived.Test.YtlclhjdfbkenfaaF1
namespace Go.Proofs.Ytlclhjdfbkenfaa.Aev
set_option linter.unusedVariables false
set_option linter.unusedSimpArgs false
set_option maxRecDepth 100000
set_option maxHeartbeats 4000000
open Go
/-! ### rows_put: function 23 -/
def ct_rows_put (g : Int → Int → Int → ByteArray → Option ByteArray) : Ct where
  nin := 0
  mv := []
  F := fun tvs blks {β} K => match tvs, blks with
    | [.v (.agg [(.d (.int .i64) a0), (.d (.int .i64) a1), (.d (.int .u64) a2), (.d .str a3)])], [] => (g a0 a1 a2 a3).bind fun r => K ⟨.v (.one (.d .str r)), []⟩
    | _, _ => none
  legit := fun tvs blks K r h => by
    split at h
    · obtain ⟨x, hx, hk⟩ := Option.bind_eq_some_iff.1 h
      refine ⟨_, ?_, hk⟩
      simp only [hx, Option.bind_some]
    · simp at h
def seg_rows_put_0 (g : Int → Int → Int → Int → ByteArray → (List Int) → Option ByteArray) : Seg where
  path := [4, 1, 2, 1, 3, 1, 3, 1, 4, 1, 0, 1, 1]
  prep := [.own 3 (.int .u8)]
  keep := [1, 3, 4]
  F := fun tvs blks {β} K => match tvs, blks with
    | [.v (.one (.ptr 0 0)), .v (.one (.own 1)), .v (.one (.d (.int .i64) x0))], [some (.box [(.d (.int .i64) x1), (.d (.int .i64) x2), (.d (.int .u64) x3), (.d .str x4)]), some (.own (.int .u8) false x5)] => (g x0 x1 x2 x3 x4 x5).bind fun r => K ⟨.v (.one (.d .str r)), []⟩
    | _, _ => none
  legit := fun tvs blks K r h => by
    split at h
    · obtain ⟨x, hx, hk⟩ := Option.bind_eq_some_iff.1 h
      refine ⟨_, ?_, hk⟩
      simp only [hx, Option.bind_some]
    · simp at h
noncomputable def env_rows_put (g40 : Int → Option ByteArray) (g41 : ByteArray → Option ByteArray) (s0 : Int → Int → Int → Int → ByteArray → (List Int) → Option ByteArray) : FEnv := { P := Go.Proofs.Try.prog, ct := fun m => if m = 40 then some (ct_pack_Int g40) else if m = 41 then some (ct_pack_Text g41) else none, N := 50, body := Go.Proofs.Try.f23.body.getD .skip, rvs := [.tmp 2], rts := [9], nin := 0, rmv := [], segs := [seg_rows_put_0 s0] }
def rows_put.c {β : Type} (g40 : Int → Option ByteArray) (g41 : ByteArray → Option ByteArray) (s0 : Int → Int → Int → Int → ByteArray → (List Int) → Option ByteArray) (a0 : Int) (a1 : Int) (a2 : Int) (a3 : ByteArray) (ret : ByteArray → Option β) : Option β := (bif (a0 == (1 : Int)) then (ret ((ByteArray.mk (List.toArray (List.map (fun n => (UInt8.ofNat (Int.toNat n))) ([(IntKind.wrap IntKind.u8 a0)] ++ [(IntKind.wrap IntKind.u8 a1)])))))) else (bif (a0 == (2 : Int)) then ((g40 a1).bind fun r0 => (bif (decide ((((1 : Nat) + (List.length (List.map (fun b => ((UInt8.toNat b) : Int)) (Array.toList (ByteArray.data r0))))) * (1 : Nat)) ≤ (35184372088832 : Nat))) then (ret ((ByteArray.mk (List.toArray (List.map (fun n => (UInt8.ofNat (Int.toNat n))) ([(IntKind.wrap IntKind.u8 a0)] ++ (List.map (fun b => ((UInt8.toNat b) : Int)) (Array.toList (ByteArray.data r0))))))))) else none)) else (bif (a0 == (3 : Int)) then ((s0 (56 : Int) a0 a1 a2 a3 [(IntKind.wrap IntKind.u8 a0)]).bind ret) else (bif (a0 == (4 : Int)) then (bif (a0 == (4 : Int)) then ((g41 a3).bind fun r1 => (bif (decide ((((1 : Nat) + (List.length (List.map (fun b => ((UInt8.toNat b) : Int)) (Array.toList (ByteArray.data r1))))) * (1 : Nat)) ≤ (35184372088832 : Nat))) then (ret ((ByteArray.mk (List.toArray (List.map (fun n => (UInt8.ofNat (Int.toNat n))) ([(IntKind.wrap IntKind.u8 a0)] ++ (List.map (fun b => ((UInt8.toNat b) : Int)) (Array.toList (ByteArray.data r1))))))))) else none)) else (ret ((ByteArray.mk (List.toArray (List.map (fun n => (UInt8.ofNat (Int.toNat n))) [(IntKind.wrap IntKind.u8 a0)])))))) else (bif (a0 == (5 : Int)) then ((g41 a3).bind fun r2 => (bif (decide ((((1 : Nat) + (List.length (List.map (fun b => ((UInt8.toNat b) : Int)) (Array.toList (ByteArray.data r2))))) * (1 : Nat)) ≤ (35184372088832 : Nat))) then (ret ((ByteArray.mk (List.toArray (List.map (fun n => (UInt8.ofNat (Int.toNat n))) ([(IntKind.wrap IntKind.u8 a0)] ++ (List.map (fun b => ((UInt8.toNat b) : Int)) (Array.toList (ByteArray.data r2))))))))) else none)) else (ret ((ByteArray.mk (List.toArray (List.map (fun n => (UInt8.ofNat (Int.toNat n))) [(IntKind.wrap IntKind.u8 a0)]))))))))))
def rows_put.s0c {β : Type} (g40 : Int → Option ByteArray) (g41 : ByteArray → Option ByteArray) (s0 : Int → Int → Int → Int → ByteArray → (List Int) → Option ByteArray) (x0 : Int) (x1 : Int) (x2 : Int) (x3 : Int) (x4 : ByteArray) (x5 : List Int) (ret : ByteArray → Option β) : Option β := (bif (decide (x0 ≥ (0 : Int))) then (bif (decide ((0 : Int) ≤ x0)) then (bif (decide ((((List.length x5) + (1 : Nat)) * (1 : Nat)) ≤ (35184372088832 : Nat))) then ((s0 (IntKind.wrap IntKind.i64 (x0 - (8 : Int))) x1 x2 x3 x4 (x5 ++ [(IntKind.wrap IntKind.u8 (Int.fdiv x3 ((2 : Int) ^ (Min.min (Int.toNat x0) (64 : Nat)))))])).bind ret) else none) else none) else (ret ((ByteArray.mk (List.toArray (List.map (fun n => (UInt8.ofNat (Int.toNat n))) x5))))))
theorem rows_put.c_bind {β : Type} (g40 : Int → Option ByteArray) (g41 : ByteArray → Option ByteArray) (s0 : Int → Int → Int → Int → ByteArray → (List Int) → Option ByteArray) (a0 : Int) (a1 : Int) (a2 : Int) (a3 : ByteArray) (ret : ByteArray → Option β) : rows_put.c g40 g41 s0 a0 a1 a2 a3 ret = (rows_put.c g40 g41 s0 a0 a1 a2 a3 some).bind ret := by
  simp only [rows_put.c, bif_bind, sum_bind, Option.bind_assoc, Option.bind_some, Option.bind_none, Option.bind_fun_some]
theorem rows_put.s0c_bind {β : Type} (g40 : Int → Option ByteArray) (g41 : ByteArray → Option ByteArray) (s0 : Int → Int → Int → Int → ByteArray → (List Int) → Option ByteArray) (x0 : Int) (x1 : Int) (x2 : Int) (x3 : Int) (x4 : ByteArray) (x5 : List Int) (ret : ByteArray → Option β) : rows_put.s0c g40 g41 s0 x0 x1 x2 x3 x4 x5 ret = (rows_put.s0c g40 g41 s0 x0 x1 x2 x3 x4 x5 some).bind ret := by
  simp only [rows_put.s0c, bif_bind, sum_bind, Option.bind_assoc, Option.bind_some, Option.bind_none, Option.bind_fun_some]
theorem rows_put.ev (g40 : Int → Option ByteArray) (g41 : ByteArray → Option ByteArray) (s0 : Int → Int → Int → Int → ByteArray → (List Int) → Option ByteArray) (a0 : Int) (a1 : Int) (a2 : Int) (a3 : ByteArray) : evAt (env_rows_put g40 g41 s0) [] [0] [.v (.agg [(.d (.int .i64) a0), (.d (.int .i64) a1), (.d (.int .u64) a2), (.d .str a3)])] [] some = rows_put.c g40 g41 s0 a0 a1 a2 a3 (fun r => some ⟨.v (.one (.d .str r)), []⟩) := by
  kernel_rfl
theorem rows_put.s0_ev (g40 : Int → Option ByteArray) (g41 : ByteArray → Option ByteArray) (s0 : Int → Int → Int → Int → ByteArray → (List Int) → Option ByteArray) (x0 : Int) (x1 : Int) (x2 : Int) (x3 : Int) (x4 : ByteArray) (x5 : List Int) : evAt (env_rows_put g40 g41 s0) [4, 1, 2, 1, 3, 1, 3, 1, 4, 1, 0, 1, 1] [1, 3, 4] [.v (.one (.ptr 0 0)), .v (.one (.own 1)), .v (.one (.d (.int .i64) x0))] [some (.box [(.d (.int .i64) x1), (.d (.int .i64) x2), (.d (.int .u64) x3), (.d .str x4)]), some (.own (.int .u8) false x5)] some = rows_put.s0c g40 g41 s0 x0 x1 x2 x3 x4 x5 (fun r => some ⟨.v (.one (.d .str r)), []⟩) := by
  kernel_rfl
def rows_put.s0 : Nat → Int → Int → Int → Int → ByteArray → (List Int) → Option ByteArray
  | 0, _, _, _, _, _, _ => none
  | k + 1, x0, x1, x2, x3, x4, x5 => rows_put.s0c (pack_Int.f k) (pack_Text.f k) (rows_put.s0 k) x0 x1 x2 x3 x4 x5 some
def rows_put.f (k : Nat) (a0 : Int) (a1 : Int) (a2 : Int) (a3 : ByteArray) : Option ByteArray := rows_put.c (pack_Int.f k) (pack_Text.f k) (rows_put.s0 k) a0 a1 a2 a3 some
theorem rows_put.is (g40 : Int → Option ByteArray) (g41 : ByteArray → Option ByteArray) (s0 : Int → Int → Int → Int → ByteArray → (List Int) → Option ByteArray) : FnIs (env_rows_put g40 g41 s0) 23 Go.Proofs.Try.f23 := ⟨Go.Proofs.Try.func23, rfl, rfl, rfl, by decide⟩
theorem rows_put.envok (g40 : Int → Option ByteArray) (g41 : ByteArray → Option ByteArray) (s0 : Int → Int → Int → Int → ByteArray → (List Int) → Option ByteArray) (h40 : CtOK Go.Proofs.Try.prog 40 (ct_pack_Int g40)) (h41 : CtOK Go.Proofs.Try.prog 41 (ct_pack_Text g41)) : EnvOK (env_rows_put g40 g41 s0).toEnv := by
  intro f c h
  simp only [env_rows_put] at h
  split at h
  · rename_i e; subst e; cases h; exact h40
  split at h
  · rename_i e; subst e; cases h; exact h41
  simp at h
theorem rows_put.segs_ok : ∀ k, ∀ s ∈ (env_rows_put (pack_Int.f k) (pack_Text.f k) (rows_put.s0 k)).segs, SegOK (env_rows_put (pack_Int.f k) (pack_Text.f k) (rows_put.s0 k)) Go.Proofs.Try.f23 s
  | 0 => by
    intro s hs
    simp only [env_rows_put, List.mem_cons, List.not_mem_nil, or_false] at hs
    rcases hs with rfl
    · intro tvs blks res h; exfalso; simp only [seg_rows_put_0] at h; split at h <;> simp [rows_put.s0] at h
  | k + 1 => by
    have ih := rows_put.segs_ok k
    intro s hs
    simp only [env_rows_put, List.mem_cons, List.not_mem_nil, or_false] at hs
    rcases hs with rfl
    · refine seg_of_ev (E := env_rows_put (pack_Int.f k) (pack_Text.f k) (rows_put.s0 k)) (rows_put.envok _ _ _  (pack_Int.ok k) (pack_Text.ok k)) ⟨(rows_put.is (pack_Int.f k) (pack_Text.f k) (rows_put.s0 k)).rvs⟩ ih ?_
      intro tvs blks res h
      simp only [seg_rows_put_0] at h
      split at h
      · refine (rows_put.s0_ev (pack_Int.f k) (pack_Text.f k) (rows_put.s0 k) _ _ _ _ _ _ ).trans ?_
        rw [rows_put.s0c_bind]
        exact h
      · simp at h
theorem rows_put.ok (k : Nat) : CtOK Go.Proofs.Try.prog 23 (ct_rows_put (rows_put.f k)) := by
  refine ct_of_ev (E := env_rows_put (pack_Int.f k) (pack_Text.f k) (rows_put.s0 k)) (rows_put.is _ _ _ ) (rows_put.envok _ _ _  (pack_Int.ok k) (pack_Text.ok k)) (rows_put.segs_ok k) rfl ?_
  intro tvs blks res h
  simp only [ct_rows_put] at h
  split at h
  · refine (rows_put.ev (pack_Int.f k) (pack_Text.f k) (rows_put.s0 k) _ _ _ _ ).trans ?_
    rw [rows_put.c_bind]
    exact h
  · simp at h

/-! ### rows_Put: function 10 -/
def ct_rows_Put (g : (List (Int × (Int × (Int × (ByteArray × Unit))))) → Option (ByteArray × Int)) : Ct where
  nin := 0
  mv := []
  F := fun tvs blks {β} K => match tvs, blks with
    | [.v (.one (.d (.sl (.pair (.int .i64) (.pair (.int .i64) (.pair (.int .u64) (.pair .str .unit))))) a0))], [] => (g a0).bind fun r => K ⟨.tup [(.one (.d .str r.1)), (.one (.d (.int .i64) r.2))], []⟩
    | _, _ => none
  legit := fun tvs blks K r h => by
    split at h
    · obtain ⟨x, hx, hk⟩ := Option.bind_eq_some_iff.1 h
      refine ⟨_, ?_, hk⟩
      simp only [hx, Option.bind_some]
    · simp at h
def seg_rows_Put_0 (g : ByteArray → (List (Int × (Int × (Int × (ByteArray × Unit))))) → Int → Int → Option (ByteArray × Int)) : Seg where
  path := [4, 1, 0, 1, 1, 1]
  prep := []
  keep := [4, 15, 16, 17]
  F := fun tvs blks {β} K => match tvs, blks with
    | [.v (.one (.d .str x0)), .v (.one (.d (.sl (.pair (.int .i64) (.pair (.int .i64) (.pair (.int .u64) (.pair .str .unit))))) x1)), .v (.one (.d (.int .i64) x2)), .v (.one (.d (.int .i64) x3))], [] => (g x0 x1 x2 x3).bind fun r => K ⟨.tup [(.one (.d .str r.1)), (.one (.d (.int .i64) r.2))], []⟩
    | _, _ => none
  legit := fun tvs blks K r h => by
    split at h
    · obtain ⟨x, hx, hk⟩ := Option.bind_eq_some_iff.1 h
      refine ⟨_, ?_, hk⟩
      simp only [hx, Option.bind_some]
    · simp at h
noncomputable def env_rows_Put (g21 : Int → Option ByteArray) (g22 : Int → Int → Int → ByteArray → Option Int) (g23 : Int → Int → Int → ByteArray → Option ByteArray) (s0 : ByteArray → (List (Int × (Int × (Int × (ByteArray × Unit))))) → Int → Int → Option (ByteArray × Int)) : FEnv := { P := Go.Proofs.Try.prog, ct := fun m => if m = 21 then some (ct_pack_Uint g21) else if m = 22 then some (ct_values_Check g22) else if m = 23 then some (ct_rows_put g23) else none, N := 32, body := Go.Proofs.Try.f10.body.getD .skip, rvs := [.tmp 2, .tmp 3], rts := [9, 25], nin := 0, rmv := [], segs := [seg_rows_Put_0 s0] }
def rows_Put.c {β : Type} (g21 : Int → Option ByteArray) (g22 : Int → Int → Int → ByteArray → Option Int) (g23 : Int → Int → Int → ByteArray → Option ByteArray) (s0 : ByteArray → (List (Int × (Int × (Int × (ByteArray × Unit))))) → Int → Int → Option (ByteArray × Int)) (a0 : List (Int × (Int × (Int × (ByteArray × Unit))))) (ret : (ByteArray × Int) → Option β) : Option β := (bif (decide (((List.length a0) : Int) > (8 : Int))) then (ret ((ByteArray.mk (List.toArray [])), (2 : Int))) else ((g21 (IntKind.wrap IntKind.u64 ((List.length a0) : Int))).bind fun r0 => ((s0 r0 a0 ((List.length a0) : Int) (0 : Int)).bind ret)))
def rows_Put.s0c {β : Type} (g21 : Int → Option ByteArray) (g22 : Int → Int → Int → ByteArray → Option Int) (g23 : Int → Int → Int → ByteArray → Option ByteArray) (s0 : ByteArray → (List (Int × (Int × (Int × (ByteArray × Unit))))) → Int → Int → Option (ByteArray × Int)) (x0 : ByteArray) (x1 : List (Int × (Int × (Int × (ByteArray × Unit))))) (x2 : Int) (x3 : Int) (ret : (ByteArray × Int) → Option β) : Option β := (bif (decide (x3 < x2)) then (bif ((decide ((0 : Int) ≤ x3)) && (decide (x3 < ((List.length x1) : Int)))) then ((g22 (elem (Ty.pair (Ty.int IntKind.i64) (Ty.pair (Ty.int IntKind.i64) (Ty.pair (Ty.int IntKind.u64) (Ty.pair Ty.str Ty.unit)))) x1 x3).1 (elem (Ty.pair (Ty.int IntKind.i64) (Ty.pair (Ty.int IntKind.i64) (Ty.pair (Ty.int IntKind.u64) (Ty.pair Ty.str Ty.unit)))) x1 x3).2.1 (elem (Ty.pair (Ty.int IntKind.i64) (Ty.pair (Ty.int IntKind.i64) (Ty.pair (Ty.int IntKind.u64) (Ty.pair Ty.str Ty.unit)))) x1 x3).2.2.1 (elem (Ty.pair (Ty.int IntKind.i64) (Ty.pair (Ty.int IntKind.i64) (Ty.pair (Ty.int IntKind.u64) (Ty.pair Ty.str Ty.unit)))) x1 x3).2.2.2.1).bind fun r0 => (bif (r0 != (0 : Int)) then (ret ((ByteArray.mk (List.toArray [])), r0)) else ((g23 (elem (Ty.pair (Ty.int IntKind.i64) (Ty.pair (Ty.int IntKind.i64) (Ty.pair (Ty.int IntKind.u64) (Ty.pair Ty.str Ty.unit)))) x1 x3).1 (elem (Ty.pair (Ty.int IntKind.i64) (Ty.pair (Ty.int IntKind.i64) (Ty.pair (Ty.int IntKind.u64) (Ty.pair Ty.str Ty.unit)))) x1 x3).2.1 (elem (Ty.pair (Ty.int IntKind.i64) (Ty.pair (Ty.int IntKind.i64) (Ty.pair (Ty.int IntKind.u64) (Ty.pair Ty.str Ty.unit)))) x1 x3).2.2.1 (elem (Ty.pair (Ty.int IntKind.i64) (Ty.pair (Ty.int IntKind.i64) (Ty.pair (Ty.int IntKind.u64) (Ty.pair Ty.str Ty.unit)))) x1 x3).2.2.2.1).bind fun r1 => (bif ((decide ((ByteArray.size x0) ≤ (4611686018427387903 : Nat))) && (decide ((ByteArray.size r1) ≤ (4611686018427387903 : Nat)))) then ((s0 (x0 ++ r1) x1 x2 (IntKind.wrap IntKind.i64 (x3 + (1 : Int)))).bind ret) else none)))) else none) else (ret (x0, (0 : Int))))
theorem rows_Put.c_bind {β : Type} (g21 : Int → Option ByteArray) (g22 : Int → Int → Int → ByteArray → Option Int) (g23 : Int → Int → Int → ByteArray → Option ByteArray) (s0 : ByteArray → (List (Int × (Int × (Int × (ByteArray × Unit))))) → Int → Int → Option (ByteArray × Int)) (a0 : List (Int × (Int × (Int × (ByteArray × Unit))))) (ret : (ByteArray × Int) → Option β) : rows_Put.c g21 g22 g23 s0 a0 ret = (rows_Put.c g21 g22 g23 s0 a0 some).bind ret := by
  simp only [rows_Put.c, bif_bind, sum_bind, Option.bind_assoc, Option.bind_some, Option.bind_none, Option.bind_fun_some]
theorem rows_Put.s0c_bind {β : Type} (g21 : Int → Option ByteArray) (g22 : Int → Int → Int → ByteArray → Option Int) (g23 : Int → Int → Int → ByteArray → Option ByteArray) (s0 : ByteArray → (List (Int × (Int × (Int × (ByteArray × Unit))))) → Int → Int → Option (ByteArray × Int)) (x0 : ByteArray) (x1 : List (Int × (Int × (Int × (ByteArray × Unit))))) (x2 : Int) (x3 : Int) (ret : (ByteArray × Int) → Option β) : rows_Put.s0c g21 g22 g23 s0 x0 x1 x2 x3 ret = (rows_Put.s0c g21 g22 g23 s0 x0 x1 x2 x3 some).bind ret := by
  simp only [rows_Put.s0c, bif_bind, sum_bind, Option.bind_assoc, Option.bind_some, Option.bind_none, Option.bind_fun_some]
theorem rows_Put.ev (g21 : Int → Option ByteArray) (g22 : Int → Int → Int → ByteArray → Option Int) (g23 : Int → Int → Int → ByteArray → Option ByteArray) (s0 : ByteArray → (List (Int × (Int × (Int × (ByteArray × Unit))))) → Int → Int → Option (ByteArray × Int)) (a0 : List (Int × (Int × (Int × (ByteArray × Unit))))) : evAt (env_rows_Put g21 g22 g23 s0) [] [0] [.v (.one (.d (.sl (.pair (.int .i64) (.pair (.int .i64) (.pair (.int .u64) (.pair .str .unit))))) a0))] [] some = rows_Put.c g21 g22 g23 s0 a0 (fun r => some ⟨.tup [(.one (.d .str r.1)), (.one (.d (.int .i64) r.2))], []⟩) := by
  kernel_rfl
theorem rows_Put.s0_ev (g21 : Int → Option ByteArray) (g22 : Int → Int → Int → ByteArray → Option Int) (g23 : Int → Int → Int → ByteArray → Option ByteArray) (s0 : ByteArray → (List (Int × (Int × (Int × (ByteArray × Unit))))) → Int → Int → Option (ByteArray × Int)) (x0 : ByteArray) (x1 : List (Int × (Int × (Int × (ByteArray × Unit))))) (x2 : Int) (x3 : Int) : evAt (env_rows_Put g21 g22 g23 s0) [4, 1, 0, 1, 1, 1] [4, 15, 16, 17] [.v (.one (.d .str x0)), .v (.one (.d (.sl (.pair (.int .i64) (.pair (.int .i64) (.pair (.int .u64) (.pair .str .unit))))) x1)), .v (.one (.d (.int .i64) x2)), .v (.one (.d (.int .i64) x3))] [] some = rows_Put.s0c g21 g22 g23 s0 x0 x1 x2 x3 (fun r => some ⟨.tup [(.one (.d .str r.1)), (.one (.d (.int .i64) r.2))], []⟩) := by
  kernel_rfl
def rows_Put.s0 : Nat → ByteArray → (List (Int × (Int × (Int × (ByteArray × Unit))))) → Int → Int → Option (ByteArray × Int)
  | 0, _, _, _, _ => none
  | k + 1, x0, x1, x2, x3 => rows_Put.s0c (pack_Uint.f k) (values_Check.f k) (rows_put.f k) (rows_Put.s0 k) x0 x1 x2 x3 some
def rows_Put.f (k : Nat) (a0 : List (Int × (Int × (Int × (ByteArray × Unit))))) : Option (ByteArray × Int) := rows_Put.c (pack_Uint.f k) (values_Check.f k) (rows_put.f k) (rows_Put.s0 k) a0 some
theorem rows_Put.is (g21 : Int → Option ByteArray) (g22 : Int → Int → Int → ByteArray → Option Int) (g23 : Int → Int → Int → ByteArray → Option ByteArray) (s0 : ByteArray → (List (Int × (Int × (Int × (ByteArray × Unit))))) → Int → Int → Option (ByteArray × Int)) : FnIs (env_rows_Put g21 g22 g23 s0) 10 Go.Proofs.Try.f10 := ⟨Go.Proofs.Try.func10, rfl, rfl, rfl, by decide⟩
theorem rows_Put.envok (g21 : Int → Option ByteArray) (g22 : Int → Int → Int → ByteArray → Option Int) (g23 : Int → Int → Int → ByteArray → Option ByteArray) (s0 : ByteArray → (List (Int × (Int × (Int × (ByteArray × Unit))))) → Int → Int → Option (ByteArray × Int)) (h21 : CtOK Go.Proofs.Try.prog 21 (ct_pack_Uint g21)) (h22 : CtOK Go.Proofs.Try.prog 22 (ct_values_Check g22)) (h23 : CtOK Go.Proofs.Try.prog 23 (ct_rows_put g23)) : EnvOK (env_rows_Put g21 g22 g23 s0).toEnv := by
  intro f c h
  simp only [env_rows_Put] at h
  split at h
  · rename_i e; subst e; cases h; exact h21
  split at h
  · rename_i e; subst e; cases h; exact h22
  split at h
  · rename_i e; subst e; cases h; exact h23
  simp at h
theorem rows_Put.segs_ok : ∀ k, ∀ s ∈ (env_rows_Put (pack_Uint.f k) (values_Check.f k) (rows_put.f k) (rows_Put.s0 k)).segs, SegOK (env_rows_Put (pack_Uint.f k) (values_Check.f k) (rows_put.f k) (rows_Put.s0 k)) Go.Proofs.Try.f10 s
  | 0 => by
    intro s hs
    simp only [env_rows_Put, List.mem_cons, List.not_mem_nil, or_false] at hs
    rcases hs with rfl
    · intro tvs blks res h; exfalso; simp only [seg_rows_Put_0] at h; split at h <;> simp [rows_Put.s0] at h
  | k + 1 => by
    have ih := rows_Put.segs_ok k
    intro s hs
    simp only [env_rows_Put, List.mem_cons, List.not_mem_nil, or_false] at hs
    rcases hs with rfl
    · refine seg_of_ev (E := env_rows_Put (pack_Uint.f k) (values_Check.f k) (rows_put.f k) (rows_Put.s0 k)) (rows_Put.envok _ _ _ _  (pack_Uint.ok k) (values_Check.ok k) (rows_put.ok k)) ⟨(rows_Put.is (pack_Uint.f k) (values_Check.f k) (rows_put.f k) (rows_Put.s0 k)).rvs⟩ ih ?_
      intro tvs blks res h
      simp only [seg_rows_Put_0] at h
      split at h
      · refine (rows_Put.s0_ev (pack_Uint.f k) (values_Check.f k) (rows_put.f k) (rows_Put.s0 k) _ _ _ _ ).trans ?_
        rw [rows_Put.s0c_bind]
        exact h
      · simp at h
theorem rows_Put.ok (k : Nat) : CtOK Go.Proofs.Try.prog 10 (ct_rows_Put (rows_Put.f k)) := by
  refine ct_of_ev (E := env_rows_Put (pack_Uint.f k) (values_Check.f k) (rows_put.f k) (rows_Put.s0 k)) (rows_Put.is _ _ _ _ ) (rows_Put.envok _ _ _ _  (pack_Uint.ok k) (values_Check.ok k) (rows_put.ok k)) (rows_Put.segs_ok k) rfl ?_
  intro tvs blks res h
  simp only [ct_rows_Put] at h
  split at h
  · refine (rows_Put.ev (pack_Uint.f k) (values_Check.f k) (rows_put.f k) (rows_Put.s0 k) _ ).trans ?_
    rw [rows_Put.c_bind]
    exact h
  · simp at h

/-! ### pack_ReadUint: function 27 -/
def ct_pack_ReadUint (g : ByteArray → Option (Int × ByteArray × Int)) : Ct where
  nin := 0
  mv := []
  F := fun tvs blks {β} K => match tvs, blks with
    | [.v (.one (.d .str a0))], [] => (g a0).bind fun r => K ⟨.tup [(.one (.d (.int .u64) r.1)), (.one (.d .str r.2.1)), (.one (.d (.int .i64) r.2.2))], []⟩
    | _, _ => none
  legit := fun tvs blks K r h => by
    split at h
    · obtain ⟨x, hx, hk⟩ := Option.bind_eq_some_iff.1 h
      refine ⟨_, ?_, hk⟩
      simp only [hx, Option.bind_some]
    · simp at h
def seg_pack_ReadUint_0 (g : ByteArray → Int → Int → Bool → Option (Int × ByteArray × Int)) : Seg where
  path := [1, 3, 1, 4, 0, 1, 1, 1, 6, 1]
  prep := []
  keep := [0, 5, 6, 13]
  F := fun tvs blks {β} K => match tvs, blks with
    | [.v (.one (.d .str x0)), .v (.one (.d (.int .u64) x1)), .v (.one (.d (.int .i64) x2)), .v (.one (.d .bool x3))], [] => (g x0 x1 x2 x3).bind fun r => K ⟨.tup [(.one (.d (.int .u64) r.1)), (.one (.d .str r.2.1)), (.one (.d (.int .i64) r.2.2))], []⟩
    | _, _ => none
  legit := fun tvs blks K r h => by
    split at h
    · obtain ⟨x, hx, hk⟩ := Option.bind_eq_some_iff.1 h
      refine ⟨_, ?_, hk⟩
      simp only [hx, Option.bind_some]
    · simp at h
def seg_pack_ReadUint_1 (g : ByteArray → Int → Int → Option (Int × ByteArray × Int)) : Seg where
  path := [1, 1, 1, 1, 6, 1]
  prep := []
  keep := [0, 5, 6]
  F := fun tvs blks {β} K => match tvs, blks with
    | [.v (.one (.d .str x0)), .v (.one (.d (.int .u64) x1)), .v (.one (.d (.int .i64) x2))], [] => (g x0 x1 x2).bind fun r => K ⟨.tup [(.one (.d (.int .u64) r.1)), (.one (.d .str r.2.1)), (.one (.d (.int .i64) r.2.2))], []⟩
    | _, _ => none
  legit := fun tvs blks K r h => by
    split at h
    · obtain ⟨x, hx, hk⟩ := Option.bind_eq_some_iff.1 h
      refine ⟨_, ?_, hk⟩
      simp only [hx, Option.bind_some]
    · simp at h
def seg_pack_ReadUint_2 (g : ByteArray → Int → Int → Option (Int × ByteArray × Int)) : Seg where
  path := [100, 1]
  prep := []
  keep := [0, 5, 6]
  F := fun tvs blks {β} K => match tvs, blks with
    | [.v (.one (.d .str x0)), .v (.one (.d (.int .u64) x1)), .v (.one (.d (.int .i64) x2))], [] => (g x0 x1 x2).bind fun r => K ⟨.tup [(.one (.d (.int .u64) r.1)), (.one (.d .str r.2.1)), (.one (.d (.int .i64) r.2.2))], []⟩
    | _, _ => none
  legit := fun tvs blks K r h => by
    split at h
    · obtain ⟨x, hx, hk⟩ := Option.bind_eq_some_iff.1 h
      refine ⟨_, ?_, hk⟩
      simp only [hx, Option.bind_some]
    · simp at h
def seg_pack_ReadUint_3 (g : ByteArray → Int → Int → Bool → Option (Int × ByteArray × Int)) : Seg where
  path := [1, 3, 1, 4, 0, 1, 100, 1]
  prep := []
  keep := [0, 5, 6, 13]
  F := fun tvs blks {β} K => match tvs, blks with
    | [.v (.one (.d .str x0)), .v (.one (.d (.int .u64) x1)), .v (.one (.d (.int .i64) x2)), .v (.one (.d .bool x3))], [] => (g x0 x1 x2 x3).bind fun r => K ⟨.tup [(.one (.d (.int .u64) r.1)), (.one (.d .str r.2.1)), (.one (.d (.int .i64) r.2.2))], []⟩
    | _, _ => none
  legit := fun tvs blks K r h => by
    split at h
    · obtain ⟨x, hx, hk⟩ := Option.bind_eq_some_iff.1 h
      refine ⟨_, ?_, hk⟩
      simp only [hx, Option.bind_some]
    · simp at h
def seg_pack_ReadUint_4 (g : ByteArray → Int → Int → Option (Int × ByteArray × Int)) : Seg where
  path := [1, 1, 100, 1]
  prep := []
  keep := [0, 5, 6]
  F := fun tvs blks {β} K => match tvs, blks with
    | [.v (.one (.d .str x0)), .v (.one (.d (.int .u64) x1)), .v (.one (.d (.int .i64) x2))], [] => (g x0 x1 x2).bind fun r => K ⟨.tup [(.one (.d (.int .u64) r.1)), (.one (.d .str r.2.1)), (.one (.d (.int .i64) r.2.2))], []⟩
    | _, _ => none
  legit := fun tvs blks K r h => by
    split at h
    · obtain ⟨x, hx, hk⟩ := Option.bind_eq_some_iff.1 h
      refine ⟨_, ?_, hk⟩
      simp only [hx, Option.bind_some]
    · simp at h
noncomputable def env_pack_ReadUint  (s0 : ByteArray → Int → Int → Bool → Option (Int × ByteArray × Int)) (s1 : ByteArray → Int → Int → Option (Int × ByteArray × Int)) (s2 : ByteArray → Int → Int → Option (Int × ByteArray × Int)) (s3 : ByteArray → Int → Int → Bool → Option (Int × ByteArray × Int)) (s4 : ByteArray → Int → Int → Option (Int × ByteArray × Int)) : FEnv := { P := Go.Proofs.Try.prog, ct := fun m => none, N := 47, body := Go.Proofs.Try.f27.body.getD .skip, rvs := [.tmp 2, .tmp 3, .tmp 4], rts := [43, 9, 25], nin := 0, rmv := [], segs := [seg_pack_ReadUint_0 s0, seg_pack_ReadUint_1 s1, seg_pack_ReadUint_2 s2, seg_pack_ReadUint_3 s3, seg_pack_ReadUint_4 s4] }
def pack_ReadUint.c {β : Type}  (s0 : ByteArray → Int → Int → Bool → Option (Int × ByteArray × Int)) (s1 : ByteArray → Int → Int → Option (Int × ByteArray × Int)) (s2 : ByteArray → Int → Int → Option (Int × ByteArray × Int)) (s3 : ByteArray → Int → Int → Bool → Option (Int × ByteArray × Int)) (s4 : ByteArray → Int → Int → Option (Int × ByteArray × Int)) (a0 : ByteArray) (ret : (Int × ByteArray × Int) → Option β) : Option β := (bif ((0 : Int) == ((ByteArray.size a0) : Int)) then (ret ((0 : Int), (ByteArray.mk (List.toArray [])), (3 : Int))) else ((s0 a0 (0 : Int) (0 : Int) false).bind ret))
def pack_ReadUint.s0c {β : Type}  (s0 : ByteArray → Int → Int → Bool → Option (Int × ByteArray × Int)) (s1 : ByteArray → Int → Int → Option (Int × ByteArray × Int)) (s2 : ByteArray → Int → Int → Option (Int × ByteArray × Int)) (s3 : ByteArray → Int → Int → Bool → Option (Int × ByteArray × Int)) (s4 : ByteArray → Int → Int → Option (Int × ByteArray × Int)) (x0 : ByteArray) (x1 : Int) (x2 : Int) (x3 : Bool) (ret : (Int × ByteArray × Int) → Option β) : Option β := (bif x3 then (ret ((0 : Int), (ByteArray.mk (List.toArray [])), (4 : Int))) else ((s1 x0 x1 x2).bind ret))
def pack_ReadUint.s1c {β : Type}  (s0 : ByteArray → Int → Int → Bool → Option (Int × ByteArray × Int)) (s1 : ByteArray → Int → Int → Option (Int × ByteArray × Int)) (s2 : ByteArray → Int → Int → Option (Int × ByteArray × Int)) (s3 : ByteArray → Int → Int → Bool → Option (Int × ByteArray × Int)) (s4 : ByteArray → Int → Int → Option (Int × ByteArray × Int)) (x0 : ByteArray) (x1 : Int) (x2 : Int) (ret : (Int × ByteArray × Int) → Option β) : Option β := (bif ((decide ((0 : Int) ≤ x2)) && (decide (x2 < ((ByteArray.size x0) : Int)))) then (bif (decide ((0 : Int) ≤ (IntKind.wrap IntKind.i64 ((7 : Int) * x2)))) then (bif (decide ((bt x0 x2) > (127 : Int))) then ((s2 x0 (IntKind.wrap IntKind.u64 ((BitVec.toNat ((BitVec.ofInt (64 : Nat) x1) ||| (BitVec.ofInt (64 : Nat) (IntKind.wrap IntKind.u64 ((IntKind.wrap IntKind.u64 (IntKind.wrap IntKind.u8 ((BitVec.toNat ((BitVec.ofInt (8 : Nat) (bt x0 x2)) &&& (BitVec.ofInt (8 : Nat) (127 : Int)))) : Int))) * ((2 : Int) ^ (Min.min (Int.toNat (IntKind.wrap IntKind.i64 ((7 : Int) * x2))) (64 : Nat)))))))) : Int)) (IntKind.wrap IntKind.i64 (x2 + (1 : Int)))).bind ret) else (bif ((bt x0 x2) == (0 : Int)) then (bif (decide ((IntKind.wrap IntKind.i64 (x2 + (1 : Int))) > (1 : Int))) then (ret ((0 : Int), (ByteArray.mk (List.toArray [])), (4 : Int))) else (bif (((decide ((0 : Int) ≤ (IntKind.wrap IntKind.i64 (x2 + (1 : Int))))) && (decide ((IntKind.wrap IntKind.i64 (x2 + (1 : Int))) ≤ ((ByteArray.size x0) : Int)))) && (decide (((ByteArray.size x0) : Int) ≤ ((ByteArray.size x0) : Int)))) then (ret ((IntKind.wrap IntKind.u64 ((BitVec.toNat ((BitVec.ofInt (64 : Nat) x1) ||| (BitVec.ofInt (64 : Nat) (IntKind.wrap IntKind.u64 ((IntKind.wrap IntKind.u64 (IntKind.wrap IntKind.u8 ((BitVec.toNat ((BitVec.ofInt (8 : Nat) (bt x0 x2)) &&& (BitVec.ofInt (8 : Nat) (127 : Int)))) : Int))) * ((2 : Int) ^ (Min.min (Int.toNat (IntKind.wrap IntKind.i64 ((7 : Int) * x2))) (64 : Nat)))))))) : Int)), (ByteArray.extract x0 (Int.toNat (IntKind.wrap IntKind.i64 (x2 + (1 : Int)))) (Int.toNat ((ByteArray.size x0) : Int))), (0 : Int))) else none)) else (bif (((decide ((0 : Int) ≤ (IntKind.wrap IntKind.i64 (x2 + (1 : Int))))) && (decide ((IntKind.wrap IntKind.i64 (x2 + (1 : Int))) ≤ ((ByteArray.size x0) : Int)))) && (decide (((ByteArray.size x0) : Int) ≤ ((ByteArray.size x0) : Int)))) then (ret ((IntKind.wrap IntKind.u64 ((BitVec.toNat ((BitVec.ofInt (64 : Nat) x1) ||| (BitVec.ofInt (64 : Nat) (IntKind.wrap IntKind.u64 ((IntKind.wrap IntKind.u64 (IntKind.wrap IntKind.u8 ((BitVec.toNat ((BitVec.ofInt (8 : Nat) (bt x0 x2)) &&& (BitVec.ofInt (8 : Nat) (127 : Int)))) : Int))) * ((2 : Int) ^ (Min.min (Int.toNat (IntKind.wrap IntKind.i64 ((7 : Int) * x2))) (64 : Nat)))))))) : Int)), (ByteArray.extract x0 (Int.toNat (IntKind.wrap IntKind.i64 (x2 + (1 : Int)))) (Int.toNat ((ByteArray.size x0) : Int))), (0 : Int))) else none))) else none) else none)
def pack_ReadUint.s2c {β : Type}  (s0 : ByteArray → Int → Int → Bool → Option (Int × ByteArray × Int)) (s1 : ByteArray → Int → Int → Option (Int × ByteArray × Int)) (s2 : ByteArray → Int → Int → Option (Int × ByteArray × Int)) (s3 : ByteArray → Int → Int → Bool → Option (Int × ByteArray × Int)) (s4 : ByteArray → Int → Int → Option (Int × ByteArray × Int)) (x0 : ByteArray) (x1 : Int) (x2 : Int) (ret : (Int × ByteArray × Int) → Option β) : Option β := (bif (x2 == ((ByteArray.size x0) : Int)) then (ret ((0 : Int), (ByteArray.mk (List.toArray [])), (3 : Int))) else (bif (x2 == (9 : Int)) then (bif ((decide ((0 : Int) ≤ x2)) && (decide (x2 < ((ByteArray.size x0) : Int)))) then ((s3 x0 x1 x2 (decide ((bt x0 x2) > (1 : Int)))).bind ret) else none) else ((s3 x0 x1 x2 false).bind ret)))
def pack_ReadUint.s3c {β : Type}  (s0 : ByteArray → Int → Int → Bool → Option (Int × ByteArray × Int)) (s1 : ByteArray → Int → Int → Option (Int × ByteArray × Int)) (s2 : ByteArray → Int → Int → Option (Int × ByteArray × Int)) (s3 : ByteArray → Int → Int → Bool → Option (Int × ByteArray × Int)) (s4 : ByteArray → Int → Int → Option (Int × ByteArray × Int)) (x0 : ByteArray) (x1 : Int) (x2 : Int) (x3 : Bool) (ret : (Int × ByteArray × Int) → Option β) : Option β := (bif x3 then (ret ((0 : Int), (ByteArray.mk (List.toArray [])), (4 : Int))) else ((s4 x0 x1 x2).bind ret))
def pack_ReadUint.s4c {β : Type}  (s0 : ByteArray → Int → Int → Bool → Option (Int × ByteArray × Int)) (s1 : ByteArray → Int → Int → Option (Int × ByteArray × Int)) (s2 : ByteArray → Int → Int → Option (Int × ByteArray × Int)) (s3 : ByteArray → Int → Int → Bool → Option (Int × ByteArray × Int)) (s4 : ByteArray → Int → Int → Option (Int × ByteArray × Int)) (x0 : ByteArray) (x1 : Int) (x2 : Int) (ret : (Int × ByteArray × Int) → Option β) : Option β := (bif ((decide ((0 : Int) ≤ x2)) && (decide (x2 < ((ByteArray.size x0) : Int)))) then (bif (decide ((0 : Int) ≤ (IntKind.wrap IntKind.i64 ((7 : Int) * x2)))) then (bif (decide ((bt x0 x2) > (127 : Int))) then ((s2 x0 (IntKind.wrap IntKind.u64 ((BitVec.toNat ((BitVec.ofInt (64 : Nat) x1) ||| (BitVec.ofInt (64 : Nat) (IntKind.wrap IntKind.u64 ((IntKind.wrap IntKind.u64 (IntKind.wrap IntKind.u8 ((BitVec.toNat ((BitVec.ofInt (8 : Nat) (bt x0 x2)) &&& (BitVec.ofInt (8 : Nat) (127 : Int)))) : Int))) * ((2 : Int) ^ (Min.min (Int.toNat (IntKind.wrap IntKind.i64 ((7 : Int) * x2))) (64 : Nat)))))))) : Int)) (IntKind.wrap IntKind.i64 (x2 + (1 : Int)))).bind ret) else (bif ((bt x0 x2) == (0 : Int)) then (bif (decide ((IntKind.wrap IntKind.i64 (x2 + (1 : Int))) > (1 : Int))) then (ret ((0 : Int), (ByteArray.mk (List.toArray [])), (4 : Int))) else (bif (((decide ((0 : Int) ≤ (IntKind.wrap IntKind.i64 (x2 + (1 : Int))))) && (decide ((IntKind.wrap IntKind.i64 (x2 + (1 : Int))) ≤ ((ByteArray.size x0) : Int)))) && (decide (((ByteArray.size x0) : Int) ≤ ((ByteArray.size x0) : Int)))) then (ret ((IntKind.wrap IntKind.u64 ((BitVec.toNat ((BitVec.ofInt (64 : Nat) x1) ||| (BitVec.ofInt (64 : Nat) (IntKind.wrap IntKind.u64 ((IntKind.wrap IntKind.u64 (IntKind.wrap IntKind.u8 ((BitVec.toNat ((BitVec.ofInt (8 : Nat) (bt x0 x2)) &&& (BitVec.ofInt (8 : Nat) (127 : Int)))) : Int))) * ((2 : Int) ^ (Min.min (Int.toNat (IntKind.wrap IntKind.i64 ((7 : Int) * x2))) (64 : Nat)))))))) : Int)), (ByteArray.extract x0 (Int.toNat (IntKind.wrap IntKind.i64 (x2 + (1 : Int)))) (Int.toNat ((ByteArray.size x0) : Int))), (0 : Int))) else none)) else (bif (((decide ((0 : Int) ≤ (IntKind.wrap IntKind.i64 (x2 + (1 : Int))))) && (decide ((IntKind.wrap IntKind.i64 (x2 + (1 : Int))) ≤ ((ByteArray.size x0) : Int)))) && (decide (((ByteArray.size x0) : Int) ≤ ((ByteArray.size x0) : Int)))) then (ret ((IntKind.wrap IntKind.u64 ((BitVec.toNat ((BitVec.ofInt (64 : Nat) x1) ||| (BitVec.ofInt (64 : Nat) (IntKind.wrap IntKind.u64 ((IntKind.wrap IntKind.u64 (IntKind.wrap IntKind.u8 ((BitVec.toNat ((BitVec.ofInt (8 : Nat) (bt x0 x2)) &&& (BitVec.ofInt (8 : Nat) (127 : Int)))) : Int))) * ((2 : Int) ^ (Min.min (Int.toNat (IntKind.wrap IntKind.i64 ((7 : Int) * x2))) (64 : Nat)))))))) : Int)), (ByteArray.extract x0 (Int.toNat (IntKind.wrap IntKind.i64 (x2 + (1 : Int)))) (Int.toNat ((ByteArray.size x0) : Int))), (0 : Int))) else none))) else none) else none)
theorem pack_ReadUint.c_bind {β : Type}  (s0 : ByteArray → Int → Int → Bool → Option (Int × ByteArray × Int)) (s1 : ByteArray → Int → Int → Option (Int × ByteArray × Int)) (s2 : ByteArray → Int → Int → Option (Int × ByteArray × Int)) (s3 : ByteArray → Int → Int → Bool → Option (Int × ByteArray × Int)) (s4 : ByteArray → Int → Int → Option (Int × ByteArray × Int)) (a0 : ByteArray) (ret : (Int × ByteArray × Int) → Option β) : pack_ReadUint.c  s0 s1 s2 s3 s4 a0 ret = (pack_ReadUint.c  s0 s1 s2 s3 s4 a0 some).bind ret := by
  simp only [pack_ReadUint.c, bif_bind, sum_bind, Option.bind_assoc, Option.bind_some, Option.bind_none, Option.bind_fun_some]
theorem pack_ReadUint.s0c_bind {β : Type}  (s0 : ByteArray → Int → Int → Bool → Option (Int × ByteArray × Int)) (s1 : ByteArray → Int → Int → Option (Int × ByteArray × Int)) (s2 : ByteArray → Int → Int → Option (Int × ByteArray × Int)) (s3 : ByteArray → Int → Int → Bool → Option (Int × ByteArray × Int)) (s4 : ByteArray → Int → Int → Option (Int × ByteArray × Int)) (x0 : ByteArray) (x1 : Int) (x2 : Int) (x3 : Bool) (ret : (Int × ByteArray × Int) → Option β) : pack_ReadUint.s0c  s0 s1 s2 s3 s4 x0 x1 x2 x3 ret = (pack_ReadUint.s0c  s0 s1 s2 s3 s4 x0 x1 x2 x3 some).bind ret := by
  simp only [pack_ReadUint.s0c, bif_bind, sum_bind, Option.bind_assoc, Option.bind_some, Option.bind_none, Option.bind_fun_some]
theorem pack_ReadUint.s1c_bind {β : Type}  (s0 : ByteArray → Int → Int → Bool → Option (Int × ByteArray × Int)) (s1 : ByteArray → Int → Int → Option (Int × ByteArray × Int)) (s2 : ByteArray → Int → Int → Option (Int × ByteArray × Int)) (s3 : ByteArray → Int → Int → Bool → Option (Int × ByteArray × Int)) (s4 : ByteArray → Int → Int → Option (Int × ByteArray × Int)) (x0 : ByteArray) (x1 : Int) (x2 : Int) (ret : (Int × ByteArray × Int) → Option β) : pack_ReadUint.s1c  s0 s1 s2 s3 s4 x0 x1 x2 ret = (pack_ReadUint.s1c  s0 s1 s2 s3 s4 x0 x1 x2 some).bind ret := by
  simp only [pack_ReadUint.s1c, bif_bind, sum_bind, Option.bind_assoc, Option.bind_some, Option.bind_none, Option.bind_fun_some]
theorem pack_ReadUint.s2c_bind {β : Type}  (s0 : ByteArray → Int → Int → Bool → Option (Int × ByteArray × Int)) (s1 : ByteArray → Int → Int → Option (Int × ByteArray × Int)) (s2 : ByteArray → Int → Int → Option (Int × ByteArray × Int)) (s3 : ByteArray → Int → Int → Bool → Option (Int × ByteArray × Int)) (s4 : ByteArray → Int → Int → Option (Int × ByteArray × Int)) (x0 : ByteArray) (x1 : Int) (x2 : Int) (ret : (Int × ByteArray × Int) → Option β) : pack_ReadUint.s2c  s0 s1 s2 s3 s4 x0 x1 x2 ret = (pack_ReadUint.s2c  s0 s1 s2 s3 s4 x0 x1 x2 some).bind ret := by
  simp only [pack_ReadUint.s2c, bif_bind, sum_bind, Option.bind_assoc, Option.bind_some, Option.bind_none, Option.bind_fun_some]
theorem pack_ReadUint.s3c_bind {β : Type}  (s0 : ByteArray → Int → Int → Bool → Option (Int × ByteArray × Int)) (s1 : ByteArray → Int → Int → Option (Int × ByteArray × Int)) (s2 : ByteArray → Int → Int → Option (Int × ByteArray × Int)) (s3 : ByteArray → Int → Int → Bool → Option (Int × ByteArray × Int)) (s4 : ByteArray → Int → Int → Option (Int × ByteArray × Int)) (x0 : ByteArray) (x1 : Int) (x2 : Int) (x3 : Bool) (ret : (Int × ByteArray × Int) → Option β) : pack_ReadUint.s3c  s0 s1 s2 s3 s4 x0 x1 x2 x3 ret = (pack_ReadUint.s3c  s0 s1 s2 s3 s4 x0 x1 x2 x3 some).bind ret := by
  simp only [pack_ReadUint.s3c, bif_bind, sum_bind, Option.bind_assoc, Option.bind_some, Option.bind_none, Option.bind_fun_some]
theorem pack_ReadUint.s4c_bind {β : Type}  (s0 : ByteArray → Int → Int → Bool → Option (Int × ByteArray × Int)) (s1 : ByteArray → Int → Int → Option (Int × ByteArray × Int)) (s2 : ByteArray → Int → Int → Option (Int × ByteArray × Int)) (s3 : ByteArray → Int → Int → Bool → Option (Int × ByteArray × Int)) (s4 : ByteArray → Int → Int → Option (Int × ByteArray × Int)) (x0 : ByteArray) (x1 : Int) (x2 : Int) (ret : (Int × ByteArray × Int) → Option β) : pack_ReadUint.s4c  s0 s1 s2 s3 s4 x0 x1 x2 ret = (pack_ReadUint.s4c  s0 s1 s2 s3 s4 x0 x1 x2 some).bind ret := by
  simp only [pack_ReadUint.s4c, bif_bind, sum_bind, Option.bind_assoc, Option.bind_some, Option.bind_none, Option.bind_fun_some]
theorem pack_ReadUint.ev  (s0 : ByteArray → Int → Int → Bool → Option (Int × ByteArray × Int)) (s1 : ByteArray → Int → Int → Option (Int × ByteArray × Int)) (s2 : ByteArray → Int → Int → Option (Int × ByteArray × Int)) (s3 : ByteArray → Int → Int → Bool → Option (Int × ByteArray × Int)) (s4 : ByteArray → Int → Int → Option (Int × ByteArray × Int)) (a0 : ByteArray) : evAt (env_pack_ReadUint  s0 s1 s2 s3 s4) [] [0] [.v (.one (.d .str a0))] [] some = pack_ReadUint.c  s0 s1 s2 s3 s4 a0 (fun r => some ⟨.tup [(.one (.d (.int .u64) r.1)), (.one (.d .str r.2.1)), (.one (.d (.int .i64) r.2.2))], []⟩) := by
  kernel_rfl
theorem pack_ReadUint.s0_ev  (s0 : ByteArray → Int → Int → Bool → Option (Int × ByteArray × Int)) (s1 : ByteArray → Int → Int → Option (Int × ByteArray × Int)) (s2 : ByteArray → Int → Int → Option (Int × ByteArray × Int)) (s3 : ByteArray → Int → Int → Bool → Option (Int × ByteArray × Int)) (s4 : ByteArray → Int → Int → Option (Int × ByteArray × Int)) (x0 : ByteArray) (x1 : Int) (x2 : Int) (x3 : Bool) : evAt (env_pack_ReadUint  s0 s1 s2 s3 s4) [1, 3, 1, 4, 0, 1, 1, 1, 6, 1] [0, 5, 6, 13] [.v (.one (.d .str x0)), .v (.one (.d (.int .u64) x1)), .v (.one (.d (.int .i64) x2)), .v (.one (.d .bool x3))] [] some = pack_ReadUint.s0c  s0 s1 s2 s3 s4 x0 x1 x2 x3 (fun r => some ⟨.tup [(.one (.d (.int .u64) r.1)), (.one (.d .str r.2.1)), (.one (.d (.int .i64) r.2.2))], []⟩) := by
  kernel_rfl
theorem pack_ReadUint.s1_ev  (s0 : ByteArray → Int → Int → Bool → Option (Int × ByteArray × Int)) (s1 : ByteArray → Int → Int → Option (Int × ByteArray × Int)) (s2 : ByteArray → Int → Int → Option (Int × ByteArray × Int)) (s3 : ByteArray → Int → Int → Bool → Option (Int × ByteArray × Int)) (s4 : ByteArray → Int → Int → Option (Int × ByteArray × Int)) (x0 : ByteArray) (x1 : Int) (x2 : Int) : evAt (env_pack_ReadUint  s0 s1 s2 s3 s4) [1, 1, 1, 1, 6, 1] [0, 5, 6] [.v (.one (.d .str x0)), .v (.one (.d (.int .u64) x1)), .v (.one (.d (.int .i64) x2))] [] some = pack_ReadUint.s1c  s0 s1 s2 s3 s4 x0 x1 x2 (fun r => some ⟨.tup [(.one (.d (.int .u64) r.1)), (.one (.d .str r.2.1)), (.one (.d (.int .i64) r.2.2))], []⟩) := by
  kernel_rfl
theorem pack_ReadUint.s2_ev  (s0 : ByteArray → Int → Int → Bool → Option (Int × ByteArray × Int)) (s1 : ByteArray → Int → Int → Option (Int × ByteArray × Int)) (s2 : ByteArray → Int → Int → Option (Int × ByteArray × Int)) (s3 : ByteArray → Int → Int → Bool → Option (Int × ByteArray × Int)) (s4 : ByteArray → Int → Int → Option (Int × ByteArray × Int)) (x0 : ByteArray) (x1 : Int) (x2 : Int) : evAt (env_pack_ReadUint  s0 s1 s2 s3 s4) [100, 1] [0, 5, 6] [.v (.one (.d .str x0)), .v (.one (.d (.int .u64) x1)), .v (.one (.d (.int .i64) x2))] [] some = pack_ReadUint.s2c  s0 s1 s2 s3 s4 x0 x1 x2 (fun r => some ⟨.tup [(.one (.d (.int .u64) r.1)), (.one (.d .str r.2.1)), (.one (.d (.int .i64) r.2.2))], []⟩) := by
  kernel_rfl
theorem pack_ReadUint.s3_ev  (s0 : ByteArray → Int → Int → Bool → Option (Int × ByteArray × Int)) (s1 : ByteArray → Int → Int → Option (Int × ByteArray × Int)) (s2 : ByteArray → Int → Int → Option (Int × ByteArray × Int)) (s3 : ByteArray → Int → Int → Bool → Option (Int × ByteArray × Int)) (s4 : ByteArray → Int → Int → Option (Int × ByteArray × Int)) (x0 : ByteArray) (x1 : Int) (x2 : Int) (x3 : Bool) : evAt (env_pack_ReadUint  s0 s1 s2 s3 s4) [1, 3, 1, 4, 0, 1, 100, 1] [0, 5, 6, 13] [.v (.one (.d .str x0)), .v (.one (.d (.int .u64) x1)), .v (.one (.d (.int .i64) x2)), .v (.one (.d .bool x3))] [] some = pack_ReadUint.s3c  s0 s1 s2 s3 s4 x0 x1 x2 x3 (fun r => some ⟨.tup [(.one (.d (.int .u64) r.1)), (.one (.d .str r.2.1)), (.one (.d (.int .i64) r.2.2))], []⟩) := by
  kernel_rfl
theorem pack_ReadUint.s4_ev  (s0 : ByteArray → Int → Int → Bool → Option (Int × ByteArray × Int)) (s1 : ByteArray → Int → Int → Option (Int × ByteArray × Int)) (s2 : ByteArray → Int → Int → Option (Int × ByteArray × Int)) (s3 : ByteArray → Int → Int → Bool → Option (Int × ByteArray × Int)) (s4 : ByteArray → Int → Int → Option (Int × ByteArray × Int)) (x0 : ByteArray) (x1 : Int) (x2 : Int) : evAt (env_pack_ReadUint  s0 s1 s2 s3 s4) [1, 1, 100, 1] [0, 5, 6] [.v (.one (.d .str x0)), .v (.one (.d (.int .u64) x1)), .v (.one (.d (.int .i64) x2))] [] some = pack_ReadUint.s4c  s0 s1 s2 s3 s4 x0 x1 x2 (fun r => some ⟨.tup [(.one (.d (.int .u64) r.1)), (.one (.d .str r.2.1)), (.one (.d (.int .i64) r.2.2))], []⟩) := by
  kernel_rfl
mutual
def pack_ReadUint.s0 : Nat → ByteArray → Int → Int → Bool → Option (Int × ByteArray × Int)
  | 0, _, _, _, _ => none
  | k + 1, x0, x1, x2, x3 => pack_ReadUint.s0c  (pack_ReadUint.s0 k) (pack_ReadUint.s1 k) (pack_ReadUint.s2 k) (pack_ReadUint.s3 k) (pack_ReadUint.s4 k) x0 x1 x2 x3 some
def pack_ReadUint.s1 : Nat → ByteArray → Int → Int → Option (Int × ByteArray × Int)
  | 0, _, _, _ => none
  | k + 1, x0, x1, x2 => pack_ReadUint.s1c  (pack_ReadUint.s0 k) (pack_ReadUint.s1 k) (pack_ReadUint.s2 k) (pack_ReadUint.s3 k) (pack_ReadUint.s4 k) x0 x1 x2 some
def pack_ReadUint.s2 : Nat → ByteArray → Int → Int → Option (Int × ByteArray × Int)
  | 0, _, _, _ => none
  | k + 1, x0, x1, x2 => pack_ReadUint.s2c  (pack_ReadUint.s0 k) (pack_ReadUint.s1 k) (pack_ReadUint.s2 k) (pack_ReadUint.s3 k) (pack_ReadUint.s4 k) x0 x1 x2 some
def pack_ReadUint.s3 : Nat → ByteArray → Int → Int → Bool → Option (Int × ByteArray × Int)
  | 0, _, _, _, _ => none
  | k + 1, x0, x1, x2, x3 => pack_ReadUint.s3c  (pack_ReadUint.s0 k) (pack_ReadUint.s1 k) (pack_ReadUint.s2 k) (pack_ReadUint.s3 k) (pack_ReadUint.s4 k) x0 x1 x2 x3 some
def pack_ReadUint.s4 : Nat → ByteArray → Int → Int → Option (Int × ByteArray × Int)
  | 0, _, _, _ => none
  | k + 1, x0, x1, x2 => pack_ReadUint.s4c  (pack_ReadUint.s0 k) (pack_ReadUint.s1 k) (pack_ReadUint.s2 k) (pack_ReadUint.s3 k) (pack_ReadUint.s4 k) x0 x1 x2 some
end
def pack_ReadUint.f (k : Nat) (a0 : ByteArray) : Option (Int × ByteArray × Int) := pack_ReadUint.c  (pack_ReadUint.s0 k) (pack_ReadUint.s1 k) (pack_ReadUint.s2 k) (pack_ReadUint.s3 k) (pack_ReadUint.s4 k) a0 some
theorem pack_ReadUint.is  (s0 : ByteArray → Int → Int → Bool → Option (Int × ByteArray × Int)) (s1 : ByteArray → Int → Int → Option (Int × ByteArray × Int)) (s2 : ByteArray → Int → Int → Option (Int × ByteArray × Int)) (s3 : ByteArray → Int → Int → Bool → Option (Int × ByteArray × Int)) (s4 : ByteArray → Int → Int → Option (Int × ByteArray × Int)) : FnIs (env_pack_ReadUint  s0 s1 s2 s3 s4) 27 Go.Proofs.Try.f27 := ⟨Go.Proofs.Try.func27, rfl, rfl, rfl, by decide⟩
theorem pack_ReadUint.envok  (s0 : ByteArray → Int → Int → Bool → Option (Int × ByteArray × Int)) (s1 : ByteArray → Int → Int → Option (Int × ByteArray × Int)) (s2 : ByteArray → Int → Int → Option (Int × ByteArray × Int)) (s3 : ByteArray → Int → Int → Bool → Option (Int × ByteArray × Int)) (s4 : ByteArray → Int → Int → Option (Int × ByteArray × Int))  : EnvOK (env_pack_ReadUint  s0 s1 s2 s3 s4).toEnv := by
  intro f c h
  simp only [env_pack_ReadUint] at h
  simp at h
theorem pack_ReadUint.segs_ok : ∀ k, ∀ s ∈ (env_pack_ReadUint  (pack_ReadUint.s0 k) (pack_ReadUint.s1 k) (pack_ReadUint.s2 k) (pack_ReadUint.s3 k) (pack_ReadUint.s4 k)).segs, SegOK (env_pack_ReadUint  (pack_ReadUint.s0 k) (pack_ReadUint.s1 k) (pack_ReadUint.s2 k) (pack_ReadUint.s3 k) (pack_ReadUint.s4 k)) Go.Proofs.Try.f27 s
  | 0 => by
    intro s hs
    simp only [env_pack_ReadUint, List.mem_cons, List.not_mem_nil, or_false] at hs
    rcases hs with rfl | rfl | rfl | rfl | rfl
    · intro tvs blks res h; exfalso; simp only [seg_pack_ReadUint_0] at h; split at h <;> simp [pack_ReadUint.s0] at h
    · intro tvs blks res h; exfalso; simp only [seg_pack_ReadUint_1] at h; split at h <;> simp [pack_ReadUint.s1] at h
    · intro tvs blks res h; exfalso; simp only [seg_pack_ReadUint_2] at h; split at h <;> simp [pack_ReadUint.s2] at h
    · intro tvs blks res h; exfalso; simp only [seg_pack_ReadUint_3] at h; split at h <;> simp [pack_ReadUint.s3] at h
    · intro tvs blks res h; exfalso; simp only [seg_pack_ReadUint_4] at h; split at h <;> simp [pack_ReadUint.s4] at h
  | k + 1 => by
    have ih := pack_ReadUint.segs_ok k
    intro s hs
    simp only [env_pack_ReadUint, List.mem_cons, List.not_mem_nil, or_false] at hs
    rcases hs with rfl | rfl | rfl | rfl | rfl
    · refine seg_of_ev (E := env_pack_ReadUint  (pack_ReadUint.s0 k) (pack_ReadUint.s1 k) (pack_ReadUint.s2 k) (pack_ReadUint.s3 k) (pack_ReadUint.s4 k)) (pack_ReadUint.envok _ _ _ _ _  ) ⟨(pack_ReadUint.is  (pack_ReadUint.s0 k) (pack_ReadUint.s1 k) (pack_ReadUint.s2 k) (pack_ReadUint.s3 k) (pack_ReadUint.s4 k)).rvs⟩ ih ?_
      intro tvs blks res h
      simp only [seg_pack_ReadUint_0] at h
      split at h
      · refine (pack_ReadUint.s0_ev  (pack_ReadUint.s0 k) (pack_ReadUint.s1 k) (pack_ReadUint.s2 k) (pack_ReadUint.s3 k) (pack_ReadUint.s4 k) _ _ _ _ ).trans ?_
        rw [pack_ReadUint.s0c_bind]
        exact h
      · simp at h
    · refine seg_of_ev (E := env_pack_ReadUint  (pack_ReadUint.s0 k) (pack_ReadUint.s1 k) (pack_ReadUint.s2 k) (pack_ReadUint.s3 k) (pack_ReadUint.s4 k)) (pack_ReadUint.envok _ _ _ _ _  ) ⟨(pack_ReadUint.is  (pack_ReadUint.s0 k) (pack_ReadUint.s1 k) (pack_ReadUint.s2 k) (pack_ReadUint.s3 k) (pack_ReadUint.s4 k)).rvs⟩ ih ?_
      intro tvs blks res h
      simp only [seg_pack_ReadUint_1] at h
      split at h
      · refine (pack_ReadUint.s1_ev  (pack_ReadUint.s0 k) (pack_ReadUint.s1 k) (pack_ReadUint.s2 k) (pack_ReadUint.s3 k) (pack_ReadUint.s4 k) _ _ _ ).trans ?_
        rw [pack_ReadUint.s1c_bind]
        exact h
      · simp at h
    · refine seg_of_ev (E := env_pack_ReadUint  (pack_ReadUint.s0 k) (pack_ReadUint.s1 k) (pack_ReadUint.s2 k) (pack_ReadUint.s3 k) (pack_ReadUint.s4 k)) (pack_ReadUint.envok _ _ _ _ _  ) ⟨(pack_ReadUint.is  (pack_ReadUint.s0 k) (pack_ReadUint.s1 k) (pack_ReadUint.s2 k) (pack_ReadUint.s3 k) (pack_ReadUint.s4 k)).rvs⟩ ih ?_
      intro tvs blks res h
      simp only [seg_pack_ReadUint_2] at h
      split at h
      · refine (pack_ReadUint.s2_ev  (pack_ReadUint.s0 k) (pack_ReadUint.s1 k) (pack_ReadUint.s2 k) (pack_ReadUint.s3 k) (pack_ReadUint.s4 k) _ _ _ ).trans ?_
        rw [pack_ReadUint.s2c_bind]
        exact h
      · simp at h
    · refine seg_of_ev (E := env_pack_ReadUint  (pack_ReadUint.s0 k) (pack_ReadUint.s1 k) (pack_ReadUint.s2 k) (pack_ReadUint.s3 k) (pack_ReadUint.s4 k)) (pack_ReadUint.envok _ _ _ _ _  ) ⟨(pack_ReadUint.is  (pack_ReadUint.s0 k) (pack_ReadUint.s1 k) (pack_ReadUint.s2 k) (pack_ReadUint.s3 k) (pack_ReadUint.s4 k)).rvs⟩ ih ?_
      intro tvs blks res h
      simp only [seg_pack_ReadUint_3] at h
      split at h
      · refine (pack_ReadUint.s3_ev  (pack_ReadUint.s0 k) (pack_ReadUint.s1 k) (pack_ReadUint.s2 k) (pack_ReadUint.s3 k) (pack_ReadUint.s4 k) _ _ _ _ ).trans ?_
        rw [pack_ReadUint.s3c_bind]
        exact h
      · simp at h
    · refine seg_of_ev (E := env_pack_ReadUint  (pack_ReadUint.s0 k) (pack_ReadUint.s1 k) (pack_ReadUint.s2 k) (pack_ReadUint.s3 k) (pack_ReadUint.s4 k)) (pack_ReadUint.envok _ _ _ _ _  ) ⟨(pack_ReadUint.is  (pack_ReadUint.s0 k) (pack_ReadUint.s1 k) (pack_ReadUint.s2 k) (pack_ReadUint.s3 k) (pack_ReadUint.s4 k)).rvs⟩ ih ?_
      intro tvs blks res h
      simp only [seg_pack_ReadUint_4] at h
      split at h
      · refine (pack_ReadUint.s4_ev  (pack_ReadUint.s0 k) (pack_ReadUint.s1 k) (pack_ReadUint.s2 k) (pack_ReadUint.s3 k) (pack_ReadUint.s4 k) _ _ _ ).trans ?_
        rw [pack_ReadUint.s4c_bind]
        exact h
      · simp at h
theorem pack_ReadUint.ok (k : Nat) : CtOK Go.Proofs.Try.prog 27 (ct_pack_ReadUint (pack_ReadUint.f k)) := by
  refine ct_of_ev (E := env_pack_ReadUint  (pack_ReadUint.s0 k) (pack_ReadUint.s1 k) (pack_ReadUint.s2 k) (pack_ReadUint.s3 k) (pack_ReadUint.s4 k)) (pack_ReadUint.is _ _ _ _ _ ) (pack_ReadUint.envok _ _ _ _ _  ) (pack_ReadUint.segs_ok k) rfl ?_
  intro tvs blks res h
  simp only [ct_pack_ReadUint] at h
  split at h
  · refine (pack_ReadUint.ev  (pack_ReadUint.s0 k) (pack_ReadUint.s1 k) (pack_ReadUint.s2 k) (pack_ReadUint.s3 k) (pack_ReadUint.s4 k) _ ).trans ?_
    rw [pack_ReadUint.c_bind]
    exact h
  · simp at h
end Go.Proofs.Ytlclhjdfbkenfaa.Aev
