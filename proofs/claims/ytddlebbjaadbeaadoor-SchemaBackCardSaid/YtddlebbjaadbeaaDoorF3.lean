/- By a program of this session (AEV): functions of the program as plain functions, and that the machine does what they say. -/
import Derived.Test.YtddlebbjaadbeaaDoorTys
import Derived.Test.YtddlebbjaadbeaaDoorProg
import Derived.Laws.Externs
import Derived.Lib.Bytealg
namespace Go.Proofs.YtddlebbjaadbeaaDoor.Aev
set_option linter.unusedVariables false
set_option linter.unusedSimpArgs false
set_option maxRecDepth 100000
set_option maxHeartbeats 4000000
open Go
/-! ### names_count: function 73 -/
abbrev G_names_count : Type := ByteArray → (List ByteArray) → Option Int
def ct_names_count (g : G_names_count) : Ct where
  nin := 0
  mv := []
  F := fun tvs blks {β} K => match tvs, blks with
    | [.v (.one (.d .str a0)), .v (.one (.d (.sl .str) a1))], [] => (g a0 a1).bind fun r => K ⟨.v (.one (.d (.int .i64) r)), []⟩
    | _, _ => none
  legit := fun tvs blks K r h => by
    split at h
    · obtain ⟨x, hx, hk⟩ := Option.bind_eq_some_iff.1 h
      refine ⟨_, ?_, hk⟩
      simp only [hx, Option.bind_some]
    · simp at h
abbrev S_names_count_0 : Type := ByteArray → Int → (List ByteArray) → Int → Int → Option Int
abbrev S_names_count_1 : Type := ByteArray → Int → (List ByteArray) → Int → Int → Option Int
def seg_names_count_0 (g : S_names_count_0) : Seg where
  path := [4, 1, 0, 1, 1]
  prep := []
  keep := [0, 5, 8, 9, 10]
  F := fun tvs blks {β} K => match tvs, blks with
    | [.v (.one (.d .str x0)), .v (.one (.d (.int .i64) x1)), .v (.one (.d (.sl .str) x2)), .v (.one (.d (.int .i64) x3)), .v (.one (.d (.int .i64) x4))], [] => (g x0 x1 x2 x3 x4).bind fun r => K ⟨.v (.one (.d (.int .i64) r)), []⟩
    | _, _ => none
  legit := fun tvs blks K r h => by
    split at h
    · obtain ⟨x, hx, hk⟩ := Option.bind_eq_some_iff.1 h
      refine ⟨_, ?_, hk⟩
      simp only [hx, Option.bind_some]
    · simp at h
def seg_names_count_1 (g : S_names_count_1) : Seg where
  path := [1, 1, 1, 5, 4, 1, 0, 1, 1]
  prep := []
  keep := [0, 5, 8, 9, 10]
  F := fun tvs blks {β} K => match tvs, blks with
    | [.v (.one (.d .str x0)), .v (.one (.d (.int .i64) x1)), .v (.one (.d (.sl .str) x2)), .v (.one (.d (.int .i64) x3)), .v (.one (.d (.int .i64) x4))], [] => (g x0 x1 x2 x3 x4).bind fun r => K ⟨.v (.one (.d (.int .i64) r)), []⟩
    | _, _ => none
  legit := fun tvs blks K r h => by
    split at h
    · obtain ⟨x, hx, hk⟩ := Option.bind_eq_some_iff.1 h
      refine ⟨_, ?_, hk⟩
      simp only [hx, Option.bind_some]
    · simp at h
noncomputable def env_names_count  (s0 : S_names_count_0) (s1 : S_names_count_1) : FEnv := { P := Go.Proofs.Tryd.prog, ct := fun m => none, N := 21, body := Go.Proofs.Tryd.f73.body.getD .skip, rvs := [.tmp 4], rts := [3], nin := 0, rmv := [], segs := [seg_names_count_0 s0, seg_names_count_1 s1] }
def names_count.c {β : Type}  (s0 : S_names_count_0) (s1 : S_names_count_1) (a0 : ByteArray) (a1 : List ByteArray) (ret : Int → Option β) : Option β := ((s0 a0 (0 : Int) a1 ((List.length a1) : Int) (0 : Int)).bind ret)
def names_count.s0c {β : Type}  (s0 : S_names_count_0) (s1 : S_names_count_1) (x0 : ByteArray) (x1 : Int) (x2 : List ByteArray) (x3 : Int) (x4 : Int) (ret : Int → Option β) : Option β := (bif (decide (x4 < x3)) then (bif ((decide ((0 : Int) ≤ x4)) && (decide (x4 < ((List.length x2) : Int)))) then (bif ((ByteArray.toList (elem Ty.str x2 x4)) == (ByteArray.toList x0)) then ((s1 x0 (IntKind.wrap IntKind.i64 (x1 + (1 : Int))) x2 x3 x4).bind ret) else ((s1 x0 x1 x2 x3 x4).bind ret)) else none) else (ret (x1)))
def names_count.s1c {β : Type}  (s0 : S_names_count_0) (s1 : S_names_count_1) (x0 : ByteArray) (x1 : Int) (x2 : List ByteArray) (x3 : Int) (x4 : Int) (ret : Int → Option β) : Option β := ((s0 x0 x1 x2 x3 (IntKind.wrap IntKind.i64 (x4 + (1 : Int)))).bind ret)
theorem names_count.c_bind {β : Type}  {s0 : S_names_count_0} {s1 : S_names_count_1} {a0 : ByteArray} {a1 : List ByteArray} {ret : Int → Option β} : names_count.c  s0 s1 a0 a1 ret = (names_count.c  s0 s1 a0 a1 some).bind ret := by
  simp only [names_count.c, bif_bind, sum_bind, Option.bind_assoc, Option.bind_some, Option.bind_none, Option.bind_fun_some]
theorem names_count.s0c_bind {β : Type}  {s0 : S_names_count_0} {s1 : S_names_count_1} {x0 : ByteArray} {x1 : Int} {x2 : List ByteArray} {x3 : Int} {x4 : Int} {ret : Int → Option β} : names_count.s0c  s0 s1 x0 x1 x2 x3 x4 ret = (names_count.s0c  s0 s1 x0 x1 x2 x3 x4 some).bind ret := by
  simp only [names_count.s0c, bif_bind, sum_bind, Option.bind_assoc, Option.bind_some, Option.bind_none, Option.bind_fun_some]
theorem names_count.s1c_bind {β : Type}  {s0 : S_names_count_0} {s1 : S_names_count_1} {x0 : ByteArray} {x1 : Int} {x2 : List ByteArray} {x3 : Int} {x4 : Int} {ret : Int → Option β} : names_count.s1c  s0 s1 x0 x1 x2 x3 x4 ret = (names_count.s1c  s0 s1 x0 x1 x2 x3 x4 some).bind ret := by
  simp only [names_count.s1c, bif_bind, sum_bind, Option.bind_assoc, Option.bind_some, Option.bind_none, Option.bind_fun_some]
theorem names_count.ev  {s0 : S_names_count_0} {s1 : S_names_count_1} {a0 : ByteArray} {a1 : List ByteArray} : evAt (env_names_count  s0 s1) [] [0, 1] [.v (.one (.d .str a0)), .v (.one (.d (.sl .str) a1))] [] some = names_count.c  s0 s1 a0 a1 (fun r => some ⟨.v (.one (.d (.int .i64) r)), []⟩) := by
  kernel_rfl
theorem names_count.s0_ev  {s0 : S_names_count_0} {s1 : S_names_count_1} {x0 : ByteArray} {x1 : Int} {x2 : List ByteArray} {x3 : Int} {x4 : Int} : evAt (env_names_count  s0 s1) [4, 1, 0, 1, 1] [0, 5, 8, 9, 10] [.v (.one (.d .str x0)), .v (.one (.d (.int .i64) x1)), .v (.one (.d (.sl .str) x2)), .v (.one (.d (.int .i64) x3)), .v (.one (.d (.int .i64) x4))] [] some = names_count.s0c  s0 s1 x0 x1 x2 x3 x4 (fun r => some ⟨.v (.one (.d (.int .i64) r)), []⟩) := by
  kernel_rfl
theorem names_count.s1_ev  {s0 : S_names_count_0} {s1 : S_names_count_1} {x0 : ByteArray} {x1 : Int} {x2 : List ByteArray} {x3 : Int} {x4 : Int} : evAt (env_names_count  s0 s1) [1, 1, 1, 5, 4, 1, 0, 1, 1] [0, 5, 8, 9, 10] [.v (.one (.d .str x0)), .v (.one (.d (.int .i64) x1)), .v (.one (.d (.sl .str) x2)), .v (.one (.d (.int .i64) x3)), .v (.one (.d (.int .i64) x4))] [] some = names_count.s1c  s0 s1 x0 x1 x2 x3 x4 (fun r => some ⟨.v (.one (.d (.int .i64) r)), []⟩) := by
  kernel_rfl
mutual
def names_count.s0 : Nat → ByteArray → Int → (List ByteArray) → Int → Int → Option Int
  | 0, _, _, _, _, _ => none
  | k + 1, x0, x1, x2, x3, x4 => names_count.s0c  (names_count.s0 k) (names_count.s1 k) x0 x1 x2 x3 x4 some
def names_count.s1 : Nat → ByteArray → Int → (List ByteArray) → Int → Int → Option Int
  | 0, _, _, _, _, _ => none
  | k + 1, x0, x1, x2, x3, x4 => names_count.s1c  (names_count.s0 k) (names_count.s1 k) x0 x1 x2 x3 x4 some
end
def names_count.f (k : Nat) (a0 : ByteArray) (a1 : List ByteArray) : Option Int := names_count.c  (names_count.s0 k) (names_count.s1 k) a0 a1 some
theorem names_count.is  {s0 : S_names_count_0} {s1 : S_names_count_1} : FnIs (env_names_count  s0 s1) 73 Go.Proofs.Tryd.f73 := ⟨Go.Proofs.Tryd.func73, rfl, rfl, rfl, by decide⟩
theorem names_count.envok  {s0 : S_names_count_0} {s1 : S_names_count_1}  : EnvOK (env_names_count  s0 s1).toEnv := by
  intro f c h
  simp only [env_names_count] at h
  simp at h
noncomputable abbrev names_count.E (k : Nat) : FEnv := env_names_count  (names_count.s0 k) (names_count.s1 k)
theorem names_count.hE (k : Nat) : EnvOK (names_count.E k).toEnv := names_count.envok 
theorem names_count.segs_ok : ∀ k, ∀ s ∈ (names_count.E k).segs, SegOK (names_count.E k) Go.Proofs.Tryd.f73 s
  | 0 => by
    intro s hs
    simp only [names_count.E, env_names_count, List.mem_cons, List.not_mem_nil, or_false] at hs
    rcases hs with rfl | rfl
    · intro tvs blks res h; exfalso; simp only [seg_names_count_0] at h; split at h <;> simp [names_count.s0] at h
    · intro tvs blks res h; exfalso; simp only [seg_names_count_1] at h; split at h <;> simp [names_count.s1] at h
  | k + 1 => by
    intro s hs
    simp only [names_count.E, env_names_count, List.mem_cons, List.not_mem_nil, or_false] at hs
    rcases hs with rfl | rfl
    · refine seg_of_ev (E := names_count.E k) (names_count.hE k) ⟨names_count.is.rvs⟩ (names_count.segs_ok k) ?_
      intro tvs blks res h
      simp only [seg_names_count_0] at h
      split at h
      · exact (names_count.s0_ev.trans names_count.s0c_bind).trans h
      · simp at h
    · refine seg_of_ev (E := names_count.E k) (names_count.hE k) ⟨names_count.is.rvs⟩ (names_count.segs_ok k) ?_
      intro tvs blks res h
      simp only [seg_names_count_1] at h
      split at h
      · exact (names_count.s1_ev.trans names_count.s1c_bind).trans h
      · simp at h
theorem names_count.ok (k : Nat) : CtOK Go.Proofs.Tryd.prog 73 (ct_names_count (names_count.f k)) := by
  refine ct_of_ev (E := names_count.E k) names_count.is (names_count.hE k) (names_count.segs_ok k) rfl ?_
  intro tvs blks res h
  simp only [ct_names_count] at h
  split at h
  · exact (names_count.ev.trans names_count.c_bind).trans h
  · simp at h

/-! ### names_Unlike: function 53 -/
abbrev G_names_Unlike : Type := (List ByteArray) → Option Bool
def ct_names_Unlike (g : G_names_Unlike) : Ct where
  nin := 0
  mv := []
  F := fun tvs blks {β} K => match tvs, blks with
    | [.v (.one (.d (.sl .str) a0))], [] => (g a0).bind fun r => K ⟨.v (.one (.d .bool r)), []⟩
    | _, _ => none
  legit := fun tvs blks K r h => by
    split at h
    · obtain ⟨x, hx, hk⟩ := Option.bind_eq_some_iff.1 h
      refine ⟨_, ?_, hk⟩
      simp only [hx, Option.bind_some]
    · simp at h
abbrev S_names_Unlike_0 : Type := (List ByteArray) → (List ByteArray) → Int → Int → Option Bool
def seg_names_Unlike_0 (g : S_names_Unlike_0) : Seg where
  path := [4, 1, 0, 1]
  prep := []
  keep := [0, 5, 6, 7]
  F := fun tvs blks {β} K => match tvs, blks with
    | [.v (.one (.d (.sl .str) x0)), .v (.one (.d (.sl .str) x1)), .v (.one (.d (.int .i64) x2)), .v (.one (.d (.int .i64) x3))], [] => (g x0 x1 x2 x3).bind fun r => K ⟨.v (.one (.d .bool r)), []⟩
    | _, _ => none
  legit := fun tvs blks K r h => by
    split at h
    · obtain ⟨x, hx, hk⟩ := Option.bind_eq_some_iff.1 h
      refine ⟨_, ?_, hk⟩
      simp only [hx, Option.bind_some]
    · simp at h
noncomputable def env_names_Unlike (g73 : G_names_count) (s0 : S_names_Unlike_0) : FEnv := { P := Go.Proofs.Tryd.prog, ct := fun m => if m = 73 then some (ct_names_count g73) else none, N := 16, body := Go.Proofs.Tryd.f53.body.getD .skip, rvs := [.tmp 2], rts := [4], nin := 0, rmv := [], segs := [seg_names_Unlike_0 s0] }
def names_Unlike.c {β : Type} (g73 : G_names_count) (s0 : S_names_Unlike_0) (a0 : List ByteArray) (ret : Bool → Option β) : Option β := ((s0 a0 a0 ((List.length a0) : Int) (0 : Int)).bind ret)
def names_Unlike.s0c {β : Type} (g73 : G_names_count) (s0 : S_names_Unlike_0) (x0 : List ByteArray) (x1 : List ByteArray) (x2 : Int) (x3 : Int) (ret : Bool → Option β) : Option β := (bif (decide (x3 < x2)) then (bif ((decide ((0 : Int) ≤ x3)) && (decide (x3 < ((List.length x1) : Int)))) then ((g73 (elem Ty.str x1 x3) x0).bind fun r0 => (bif (decide (r0 > (1 : Int))) then (ret (false)) else ((s0 x0 x1 x2 (IntKind.wrap IntKind.i64 (x3 + (1 : Int)))).bind ret))) else none) else (ret (true)))
theorem names_Unlike.c_bind {β : Type} {g73 : G_names_count} {s0 : S_names_Unlike_0} {a0 : List ByteArray} {ret : Bool → Option β} : names_Unlike.c g73 s0 a0 ret = (names_Unlike.c g73 s0 a0 some).bind ret := by
  simp only [names_Unlike.c, bif_bind, sum_bind, Option.bind_assoc, Option.bind_some, Option.bind_none, Option.bind_fun_some]
theorem names_Unlike.s0c_bind {β : Type} {g73 : G_names_count} {s0 : S_names_Unlike_0} {x0 : List ByteArray} {x1 : List ByteArray} {x2 : Int} {x3 : Int} {ret : Bool → Option β} : names_Unlike.s0c g73 s0 x0 x1 x2 x3 ret = (names_Unlike.s0c g73 s0 x0 x1 x2 x3 some).bind ret := by
  simp only [names_Unlike.s0c, bif_bind, sum_bind, Option.bind_assoc, Option.bind_some, Option.bind_none, Option.bind_fun_some]
theorem names_Unlike.ev {g73 : G_names_count} {s0 : S_names_Unlike_0} {a0 : List ByteArray} : evAt (env_names_Unlike g73 s0) [] [0] [.v (.one (.d (.sl .str) a0))] [] some = names_Unlike.c g73 s0 a0 (fun r => some ⟨.v (.one (.d .bool r)), []⟩) := by
  kernel_rfl
theorem names_Unlike.s0_ev {g73 : G_names_count} {s0 : S_names_Unlike_0} {x0 : List ByteArray} {x1 : List ByteArray} {x2 : Int} {x3 : Int} : evAt (env_names_Unlike g73 s0) [4, 1, 0, 1] [0, 5, 6, 7] [.v (.one (.d (.sl .str) x0)), .v (.one (.d (.sl .str) x1)), .v (.one (.d (.int .i64) x2)), .v (.one (.d (.int .i64) x3))] [] some = names_Unlike.s0c g73 s0 x0 x1 x2 x3 (fun r => some ⟨.v (.one (.d .bool r)), []⟩) := by
  kernel_rfl
def names_Unlike.s0 : Nat → (List ByteArray) → (List ByteArray) → Int → Int → Option Bool
  | 0, _, _, _, _ => none
  | k + 1, x0, x1, x2, x3 => names_Unlike.s0c (names_count.f k) (names_Unlike.s0 k) x0 x1 x2 x3 some
def names_Unlike.f (k : Nat) (a0 : List ByteArray) : Option Bool := names_Unlike.c (names_count.f k) (names_Unlike.s0 k) a0 some
theorem names_Unlike.is {g73 : G_names_count} {s0 : S_names_Unlike_0} : FnIs (env_names_Unlike g73 s0) 53 Go.Proofs.Tryd.f53 := ⟨Go.Proofs.Tryd.func53, rfl, rfl, rfl, by decide⟩
theorem names_Unlike.envok {g73 : G_names_count} {s0 : S_names_Unlike_0} (h73 : CtOK Go.Proofs.Tryd.prog 73 (ct_names_count g73)) : EnvOK (env_names_Unlike g73 s0).toEnv := by
  intro f c h
  simp only [env_names_Unlike] at h
  split at h
  · rename_i e; subst e; cases h; exact h73
  simp at h
noncomputable abbrev names_Unlike.E (k : Nat) : FEnv := env_names_Unlike (names_count.f k) (names_Unlike.s0 k)
theorem names_Unlike.hE (k : Nat) : EnvOK (names_Unlike.E k).toEnv := names_Unlike.envok (names_count.ok k)
theorem names_Unlike.segs_ok : ∀ k, ∀ s ∈ (names_Unlike.E k).segs, SegOK (names_Unlike.E k) Go.Proofs.Tryd.f53 s
  | 0 => by
    intro s hs
    simp only [names_Unlike.E, env_names_Unlike, List.mem_cons, List.not_mem_nil, or_false] at hs
    rcases hs with rfl
    · intro tvs blks res h; exfalso; simp only [seg_names_Unlike_0] at h; split at h <;> simp [names_Unlike.s0] at h
  | k + 1 => by
    intro s hs
    simp only [names_Unlike.E, env_names_Unlike, List.mem_cons, List.not_mem_nil, or_false] at hs
    rcases hs with rfl
    · refine seg_of_ev (E := names_Unlike.E k) (names_Unlike.hE k) ⟨names_Unlike.is.rvs⟩ (names_Unlike.segs_ok k) ?_
      intro tvs blks res h
      simp only [seg_names_Unlike_0] at h
      split at h
      · exact (names_Unlike.s0_ev.trans names_Unlike.s0c_bind).trans h
      · simp at h
theorem names_Unlike.ok (k : Nat) : CtOK Go.Proofs.Tryd.prog 53 (ct_names_Unlike (names_Unlike.f k)) := by
  refine ct_of_ev (E := names_Unlike.E k) names_Unlike.is (names_Unlike.hE k) (names_Unlike.segs_ok k) rfl ?_
  intro tvs blks res h
  simp only [ct_names_Unlike] at h
  split at h
  · exact (names_Unlike.ev.trans names_Unlike.c_bind).trans h
  · simp at h

/-! ### schema_table_1: function 55 -/
abbrev G_schema_table_1 : Type := ByteArray → Int → Bool → Int → Int → Int → ByteArray → Option Bool
def ct_schema_table_1 (g : G_schema_table_1) : Ct where
  nin := 0
  mv := []
  F := fun tvs blks {β} K => match tvs, blks with
    | [.v (.agg [(.d .str a0), (.d (.int .i64) a1), (.d .bool a2), (.d (.int .i64) a3), (.d (.int .i64) a4), (.d (.int .u64) a5), (.d .str a6)])], [] => (g a0 a1 a2 a3 a4 a5 a6).bind fun r => K ⟨.v (.one (.d .bool r)), []⟩
    | _, _ => none
  legit := fun tvs blks K r h => by
    split at h
    · obtain ⟨x, hx, hk⟩ := Option.bind_eq_some_iff.1 h
      refine ⟨_, ?_, hk⟩
      simp only [hx, Option.bind_some]
    · simp at h
noncomputable def env_schema_table_1   : FEnv := { P := Go.Proofs.Tryd.prog, ct := fun m => none, N := 5, body := Go.Proofs.Tryd.f55.body.getD .skip, rvs := [.tmp 2], rts := [4], nin := 0, rmv := [], segs := [] }
def schema_table_1.c {β : Type}   (a0 : ByteArray) (a1 : Int) (a2 : Bool) (a3 : Int) (a4 : Int) (a5 : Int) (a6 : ByteArray) (ret : Bool → Option β) : Option β := (ret (a2))
theorem schema_table_1.c_bind {β : Type}   {a0 : ByteArray} {a1 : Int} {a2 : Bool} {a3 : Int} {a4 : Int} {a5 : Int} {a6 : ByteArray} {ret : Bool → Option β} : schema_table_1.c   a0 a1 a2 a3 a4 a5 a6 ret = (schema_table_1.c   a0 a1 a2 a3 a4 a5 a6 some).bind ret := by
  simp only [schema_table_1.c, bif_bind, sum_bind, Option.bind_assoc, Option.bind_some, Option.bind_none, Option.bind_fun_some]
theorem schema_table_1.ev   {a0 : ByteArray} {a1 : Int} {a2 : Bool} {a3 : Int} {a4 : Int} {a5 : Int} {a6 : ByteArray} : evAt (env_schema_table_1  ) [] [0] [.v (.agg [(.d .str a0), (.d (.int .i64) a1), (.d .bool a2), (.d (.int .i64) a3), (.d (.int .i64) a4), (.d (.int .u64) a5), (.d .str a6)])] [] some = schema_table_1.c   a0 a1 a2 a3 a4 a5 a6 (fun r => some ⟨.v (.one (.d .bool r)), []⟩) := by
  kernel_rfl
def schema_table_1.f (k : Nat) (a0 : ByteArray) (a1 : Int) (a2 : Bool) (a3 : Int) (a4 : Int) (a5 : Int) (a6 : ByteArray) : Option Bool := schema_table_1.c   a0 a1 a2 a3 a4 a5 a6 some
theorem schema_table_1.is   : FnIs (env_schema_table_1  ) 55 Go.Proofs.Tryd.f55 := ⟨Go.Proofs.Tryd.func55, rfl, rfl, rfl, by decide⟩
theorem schema_table_1.envok    : EnvOK (env_schema_table_1  ).toEnv := by
  intro f c h
  simp only [env_schema_table_1] at h
  simp at h
noncomputable abbrev schema_table_1.E (k : Nat) : FEnv := env_schema_table_1  
theorem schema_table_1.hE (k : Nat) : EnvOK (schema_table_1.E k).toEnv := schema_table_1.envok 
theorem schema_table_1.ok (k : Nat) : CtOK Go.Proofs.Tryd.prog 55 (ct_schema_table_1 (schema_table_1.f k)) := by
  refine ct_of_ev (E := schema_table_1.E k) schema_table_1.is (schema_table_1.hE k) (fun s hs => by simp [schema_table_1.E, env_schema_table_1] at hs) rfl ?_
  intro tvs blks res h
  simp only [ct_schema_table_1] at h
  split at h
  · exact (schema_table_1.ev.trans schema_table_1.c_bind).trans h
  · simp at h

/-! ### api_Col_74: function 74 -/
abbrev G_api_Col_74 : Type := (List D_api_Col) → Option Int
def ct_api_Col_74 (g : G_api_Col_74) : Ct where
  nin := 0
  mv := []
  F := fun tvs blks {β} K => match tvs, blks with
    | [.v (.one (.d (.sl (.pair .str (.pair (.int .i64) (.pair .bool (.pair (.pair (.int .i64) (.pair (.int .i64) (.pair (.int .u64) (.pair .str .unit)))) .unit))))) a0)), .v (.one (.fn 55 []))], [] => (g a0).bind fun r => K ⟨.v (.one (.d (.int .i64) r)), []⟩
    | _, _ => none
  legit := fun tvs blks K r h => by
    split at h
    · obtain ⟨x, hx, hk⟩ := Option.bind_eq_some_iff.1 h
      refine ⟨_, ?_, hk⟩
      simp only [hx, Option.bind_some]
    · simp at h
abbrev S_api_Col_74_0 : Type := (List D_api_Col) → Int → Int → Option Int
def seg_api_Col_74_0 (g : S_api_Col_74_0) : Seg where
  path := [4, 1, 0, 1]
  prep := []
  keep := [0, 1, 7, 8]
  F := fun tvs blks {β} K => match tvs, blks with
    | [.v (.one (.d (.sl (.pair .str (.pair (.int .i64) (.pair .bool (.pair (.pair (.int .i64) (.pair (.int .i64) (.pair (.int .u64) (.pair .str .unit)))) .unit))))) x0)), .v (.one (.fn 55 [])), .v (.one (.d (.int .i64) x1)), .v (.one (.d (.int .i64) x2))], [] => (g x0 x1 x2).bind fun r => K ⟨.v (.one (.d (.int .i64) r)), []⟩
    | _, _ => none
  legit := fun tvs blks K r h => by
    split at h
    · obtain ⟨x, hx, hk⟩ := Option.bind_eq_some_iff.1 h
      refine ⟨_, ?_, hk⟩
      simp only [hx, Option.bind_some]
    · simp at h
noncomputable def env_api_Col_74 (g55 : G_schema_table_1) (s0 : S_api_Col_74_0) : FEnv := { P := Go.Proofs.Tryd.prog, ct := fun m => if m = 55 then some (ct_schema_table_1 g55) else none, N := 19, body := Go.Proofs.Tryd.f74.body.getD .skip, rvs := [.tmp 4], rts := [3], nin := 0, rmv := [], segs := [seg_api_Col_74_0 s0] }
def api_Col_74.c {β : Type} (g55 : G_schema_table_1) (s0 : S_api_Col_74_0) (a0 : List D_api_Col) (ret : Int → Option β) : Option β := ((s0 a0 ((List.length a0) : Int) (0 : Int)).bind ret)
def api_Col_74.s0c {β : Type} (g55 : G_schema_table_1) (s0 : S_api_Col_74_0) (x0 : List D_api_Col) (x1 : Int) (x2 : Int) (ret : Int → Option β) : Option β := (bif (decide (x2 < x1)) then (bif ((decide ((0 : Int) ≤ x2)) && (decide (x2 < ((List.length x0) : Int)))) then ((g55 (elem T_api_Col x0 x2).1 (elem T_api_Col x0 x2).2.1 (elem T_api_Col x0 x2).2.2.1 (elem T_api_Col x0 x2).2.2.2.1.1 (elem T_api_Col x0 x2).2.2.2.1.2.1 (elem T_api_Col x0 x2).2.2.2.1.2.2.1 (elem T_api_Col x0 x2).2.2.2.1.2.2.2.1).bind fun r0 => (bif r0 then (ret (x2)) else ((s0 x0 x1 (IntKind.wrap IntKind.i64 (x2 + (1 : Int)))).bind ret))) else none) else (ret ((-1 : Int))))
theorem api_Col_74.c_bind {β : Type} {g55 : G_schema_table_1} {s0 : S_api_Col_74_0} {a0 : List D_api_Col} {ret : Int → Option β} : api_Col_74.c g55 s0 a0 ret = (api_Col_74.c g55 s0 a0 some).bind ret := by
  simp only [api_Col_74.c, bif_bind, sum_bind, Option.bind_assoc, Option.bind_some, Option.bind_none, Option.bind_fun_some]
theorem api_Col_74.s0c_bind {β : Type} {g55 : G_schema_table_1} {s0 : S_api_Col_74_0} {x0 : List D_api_Col} {x1 : Int} {x2 : Int} {ret : Int → Option β} : api_Col_74.s0c g55 s0 x0 x1 x2 ret = (api_Col_74.s0c g55 s0 x0 x1 x2 some).bind ret := by
  simp only [api_Col_74.s0c, bif_bind, sum_bind, Option.bind_assoc, Option.bind_some, Option.bind_none, Option.bind_fun_some]
theorem api_Col_74.ev {g55 : G_schema_table_1} {s0 : S_api_Col_74_0} {a0 : List D_api_Col} : evAt (env_api_Col_74 g55 s0) [] [0, 1] [.v (.one (.d (.sl T_api_Col) a0)), .v (.one (.fn 55 []))] [] some = api_Col_74.c g55 s0 a0 (fun r => some ⟨.v (.one (.d (.int .i64) r)), []⟩) := by
  kernel_rfl
theorem api_Col_74.s0_ev {g55 : G_schema_table_1} {s0 : S_api_Col_74_0} {x0 : List D_api_Col} {x1 : Int} {x2 : Int} : evAt (env_api_Col_74 g55 s0) [4, 1, 0, 1] [0, 1, 7, 8] [.v (.one (.d (.sl T_api_Col) x0)), .v (.one (.fn 55 [])), .v (.one (.d (.int .i64) x1)), .v (.one (.d (.int .i64) x2))] [] some = api_Col_74.s0c g55 s0 x0 x1 x2 (fun r => some ⟨.v (.one (.d (.int .i64) r)), []⟩) := by
  kernel_rfl
def api_Col_74.s0 : Nat → (List D_api_Col) → Int → Int → Option Int
  | 0, _, _, _ => none
  | k + 1, x0, x1, x2 => api_Col_74.s0c (schema_table_1.f k) (api_Col_74.s0 k) x0 x1 x2 some
def api_Col_74.f (k : Nat) (a0 : List D_api_Col) : Option Int := api_Col_74.c (schema_table_1.f k) (api_Col_74.s0 k) a0 some
theorem api_Col_74.is {g55 : G_schema_table_1} {s0 : S_api_Col_74_0} : FnIs (env_api_Col_74 g55 s0) 74 Go.Proofs.Tryd.f74 := ⟨Go.Proofs.Tryd.func74, rfl, rfl, rfl, by decide⟩
theorem api_Col_74.envok {g55 : G_schema_table_1} {s0 : S_api_Col_74_0} (h55 : CtOK Go.Proofs.Tryd.prog 55 (ct_schema_table_1 g55)) : EnvOK (env_api_Col_74 g55 s0).toEnv := by
  intro f c h
  simp only [env_api_Col_74] at h
  split at h
  · rename_i e; subst e; cases h; exact h55
  simp at h
noncomputable abbrev api_Col_74.E (k : Nat) : FEnv := env_api_Col_74 (schema_table_1.f k) (api_Col_74.s0 k)
theorem api_Col_74.hE (k : Nat) : EnvOK (api_Col_74.E k).toEnv := api_Col_74.envok (schema_table_1.ok k)
theorem api_Col_74.segs_ok : ∀ k, ∀ s ∈ (api_Col_74.E k).segs, SegOK (api_Col_74.E k) Go.Proofs.Tryd.f74 s
  | 0 => by
    intro s hs
    simp only [api_Col_74.E, env_api_Col_74, List.mem_cons, List.not_mem_nil, or_false] at hs
    rcases hs with rfl
    · intro tvs blks res h; exfalso; simp only [seg_api_Col_74_0] at h; split at h <;> simp [api_Col_74.s0] at h
  | k + 1 => by
    intro s hs
    simp only [api_Col_74.E, env_api_Col_74, List.mem_cons, List.not_mem_nil, or_false] at hs
    rcases hs with rfl
    · refine seg_of_ev (E := api_Col_74.E k) (api_Col_74.hE k) ⟨api_Col_74.is.rvs⟩ (api_Col_74.segs_ok k) ?_
      intro tvs blks res h
      simp only [seg_api_Col_74_0] at h
      split at h
      · exact (api_Col_74.s0_ev.trans api_Col_74.s0c_bind).trans h
      · simp at h
theorem api_Col_74.ok (k : Nat) : CtOK Go.Proofs.Tryd.prog 74 (ct_api_Col_74 (api_Col_74.f k)) := by
  refine ct_of_ev (E := api_Col_74.E k) api_Col_74.is (api_Col_74.hE k) (api_Col_74.segs_ok k) rfl ?_
  intro tvs blks res h
  simp only [ct_api_Col_74] at h
  split at h
  · exact (api_Col_74.ev.trans api_Col_74.c_bind).trans h
  · simp at h

/-! ### api_Col_54: function 54 -/
abbrev G_api_Col_54 : Type := (List D_api_Col) → Option Bool
def ct_api_Col_54 (g : G_api_Col_54) : Ct where
  nin := 0
  mv := []
  F := fun tvs blks {β} K => match tvs, blks with
    | [.v (.one (.d (.sl (.pair .str (.pair (.int .i64) (.pair .bool (.pair (.pair (.int .i64) (.pair (.int .i64) (.pair (.int .u64) (.pair .str .unit)))) .unit))))) a0)), .v (.one (.fn 55 []))], [] => (g a0).bind fun r => K ⟨.v (.one (.d .bool r)), []⟩
    | _, _ => none
  legit := fun tvs blks K r h => by
    split at h
    · obtain ⟨x, hx, hk⟩ := Option.bind_eq_some_iff.1 h
      refine ⟨_, ?_, hk⟩
      simp only [hx, Option.bind_some]
    · simp at h
noncomputable def env_api_Col_54 (g55 : G_schema_table_1) (g74 : G_api_Col_74)  : FEnv := { P := Go.Proofs.Tryd.prog, ct := fun m => if m = 55 then some (ct_schema_table_1 g55) else if m = 74 then some (ct_api_Col_74 g74) else none, N := 9, body := Go.Proofs.Tryd.f54.body.getD .skip, rvs := [.tmp 4], rts := [4], nin := 0, rmv := [], segs := [] }
def api_Col_54.c {β : Type} (g55 : G_schema_table_1) (g74 : G_api_Col_74)  (a0 : List D_api_Col) (ret : Bool → Option β) : Option β := ((g74 a0).bind fun r0 => (ret ((decide (r0 ≥ (0 : Int))))))
theorem api_Col_54.c_bind {β : Type} {g55 : G_schema_table_1} {g74 : G_api_Col_74}  {a0 : List D_api_Col} {ret : Bool → Option β} : api_Col_54.c g55 g74  a0 ret = (api_Col_54.c g55 g74  a0 some).bind ret := by
  simp only [api_Col_54.c, bif_bind, sum_bind, Option.bind_assoc, Option.bind_some, Option.bind_none, Option.bind_fun_some]
theorem api_Col_54.ev {g55 : G_schema_table_1} {g74 : G_api_Col_74}  {a0 : List D_api_Col} : evAt (env_api_Col_54 g55 g74 ) [] [0, 1] [.v (.one (.d (.sl T_api_Col) a0)), .v (.one (.fn 55 []))] [] some = api_Col_54.c g55 g74  a0 (fun r => some ⟨.v (.one (.d .bool r)), []⟩) := by
  kernel_rfl
def api_Col_54.f (k : Nat) (a0 : List D_api_Col) : Option Bool := api_Col_54.c (schema_table_1.f k) (api_Col_74.f k)  a0 some
theorem api_Col_54.is {g55 : G_schema_table_1} {g74 : G_api_Col_74}  : FnIs (env_api_Col_54 g55 g74 ) 54 Go.Proofs.Tryd.f54 := ⟨Go.Proofs.Tryd.func54, rfl, rfl, rfl, by decide⟩
theorem api_Col_54.envok {g55 : G_schema_table_1} {g74 : G_api_Col_74}  (h55 : CtOK Go.Proofs.Tryd.prog 55 (ct_schema_table_1 g55)) (h74 : CtOK Go.Proofs.Tryd.prog 74 (ct_api_Col_74 g74)) : EnvOK (env_api_Col_54 g55 g74 ).toEnv := by
  intro f c h
  simp only [env_api_Col_54] at h
  split at h
  · rename_i e; subst e; cases h; exact h55
  split at h
  · rename_i e; subst e; cases h; exact h74
  simp at h
noncomputable abbrev api_Col_54.E (k : Nat) : FEnv := env_api_Col_54 (schema_table_1.f k) (api_Col_74.f k) 
theorem api_Col_54.hE (k : Nat) : EnvOK (api_Col_54.E k).toEnv := api_Col_54.envok (schema_table_1.ok k) (api_Col_74.ok k)
theorem api_Col_54.ok (k : Nat) : CtOK Go.Proofs.Tryd.prog 54 (ct_api_Col_54 (api_Col_54.f k)) := by
  refine ct_of_ev (E := api_Col_54.E k) api_Col_54.is (api_Col_54.hE k) (fun s hs => by simp [api_Col_54.E, env_api_Col_54] at hs) rfl ?_
  intro tvs blks res h
  simp only [ct_api_Col_54] at h
  split at h
  · exact (api_Col_54.ev.trans api_Col_54.c_bind).trans h
  · simp at h
end Go.Proofs.YtddlebbjaadbeaaDoor.Aev
