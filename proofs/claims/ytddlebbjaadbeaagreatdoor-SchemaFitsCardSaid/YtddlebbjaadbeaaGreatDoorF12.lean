/- By a program of this session (AEV): functions of the program as plain functions, and that the machine does what they say. -/
import Derived.Test.YtddlebbjaadbeaaGreatDoorTys
import Derived.Test.YtddlebbjaadbeaaGreatDoorProg
import Derived.Laws.Externs
import Derived.Lib.Bytealg
import Derived.Test.YtddlebbjaadbeaaGreatDoorF10
import Derived.Test.YtddlebbjaadbeaaGreatDoorF11
namespace Go.Proofs.YtddlebbjaadbeaaGreatDoor.Aev
set_option linter.unusedVariables false
set_option linter.unusedSimpArgs false
set_option maxRecDepth 100000
set_option maxHeartbeats 4000000
open Go
/-! ### transomref01_Count: function 102 -/
abbrev G_transomref01_Count : Type := ByteArray → Option Int
def ct_transomref01_Count (g : G_transomref01_Count) : Ct where
  nin := 0
  mv := []
  F := fun tvs blks {β} K => match tvs, blks with
    | [.v (.one (.d .str a0))], [] => (g a0).bind fun r => K ⟨.v (.one (.d (.int .i64) r)), []⟩
    | _, _ => none
  legit := fun tvs blks K r h => by
    split at h
    · obtain ⟨x, hx, hk⟩ := Option.bind_eq_some_iff.1 h
      refine ⟨_, ?_, hk⟩
      simp only [hx, Option.bind_some]
    · simp at h
abbrev S_transomref01_Count_0 : Type := ByteArray → Int → Int → Option Int
def seg_transomref01_Count_0 (g : S_transomref01_Count_0) : Seg where
  path := [4, 1, 0, 1, 1]
  prep := []
  keep := [0, 3, 4]
  F := fun tvs blks {β} K => match tvs, blks with
    | [.v (.one (.d .str x0)), .v (.one (.d (.int .i64) x1)), .v (.one (.d (.int .i64) x2))], [] => (g x0 x1 x2).bind fun r => K ⟨.v (.one (.d (.int .i64) r)), []⟩
    | _, _ => none
  legit := fun tvs blks K r h => by
    split at h
    · obtain ⟨x, hx, hk⟩ := Option.bind_eq_some_iff.1 h
      refine ⟨_, ?_, hk⟩
      simp only [hx, Option.bind_some]
    · simp at h
noncomputable def env_transomref01_Count (g110 : G_transomref01_Next) (s0 : S_transomref01_Count_0) : FEnv := { P := Go.Proofs.Tryz.prog, ct := fun m => if m = 110 then some (ct_transomref01_Next g110) else none, N := 28, body := Go.Proofs.Tryz.f102.body.getD .skip, rvs := [.tmp 2], rts := [3], nin := 0, rmv := [], segs := [seg_transomref01_Count_0 s0] }
def transomref01_Count.c {β : Type} (g110 : G_transomref01_Next) (s0 : S_transomref01_Count_0) (a0 : ByteArray) (ret : Int → Option β) : Option β := ((s0 a0 (0 : Int) (0 : Int)).bind ret)
def transomref01_Count.s0c {β : Type} (g110 : G_transomref01_Next) (s0 : S_transomref01_Count_0) (x0 : ByteArray) (x1 : Int) (x2 : Int) (ret : Int → Option β) : Option β := (bif (decide (x2 < ((ByteArray.size x0) : Int))) then (bif (((decide ((0 : Int) ≤ x2)) && (decide (x2 ≤ ((ByteArray.size x0) : Int)))) && (decide (((ByteArray.size x0) : Int) ≤ ((ByteArray.size x0) : Int)))) then ((g110 (ByteArray.extract x0 (Int.toNat x2) (Int.toNat ((ByteArray.size x0) : Int)))).bind fun r0 => (bif (r0.2.2 != (0 : Int)) then (ret ((-1 : Int))) else ((s0 x0 (IntKind.wrap IntKind.i64 (x1 + (1 : Int))) (IntKind.wrap IntKind.i64 (x2 + r0.2.1))).bind ret))) else none) else (ret (x1)))
theorem transomref01_Count.c_bind {β : Type} {g110 : G_transomref01_Next} {s0 : S_transomref01_Count_0} {a0 : ByteArray} {ret : Int → Option β} : transomref01_Count.c g110 s0 a0 ret = (transomref01_Count.c g110 s0 a0 some).bind ret := by
  simp only [transomref01_Count.c, bif_bind, sum_bind, Option.bind_assoc, Option.bind_some, Option.bind_none, Option.bind_fun_some]
theorem transomref01_Count.s0c_bind {β : Type} {g110 : G_transomref01_Next} {s0 : S_transomref01_Count_0} {x0 : ByteArray} {x1 : Int} {x2 : Int} {ret : Int → Option β} : transomref01_Count.s0c g110 s0 x0 x1 x2 ret = (transomref01_Count.s0c g110 s0 x0 x1 x2 some).bind ret := by
  simp only [transomref01_Count.s0c, bif_bind, sum_bind, Option.bind_assoc, Option.bind_some, Option.bind_none, Option.bind_fun_some]
theorem transomref01_Count.ev {g110 : G_transomref01_Next} {s0 : S_transomref01_Count_0} {a0 : ByteArray} : evAt (env_transomref01_Count g110 s0) [] [0] [.v (.one (.d .str a0))] [] some = transomref01_Count.c g110 s0 a0 (fun r => some ⟨.v (.one (.d (.int .i64) r)), []⟩) := by
  kernel_rfl
theorem transomref01_Count.s0_ev {g110 : G_transomref01_Next} {s0 : S_transomref01_Count_0} {x0 : ByteArray} {x1 : Int} {x2 : Int} : evAt (env_transomref01_Count g110 s0) [4, 1, 0, 1, 1] [0, 3, 4] [.v (.one (.d .str x0)), .v (.one (.d (.int .i64) x1)), .v (.one (.d (.int .i64) x2))] [] some = transomref01_Count.s0c g110 s0 x0 x1 x2 (fun r => some ⟨.v (.one (.d (.int .i64) r)), []⟩) := by
  kernel_rfl
def transomref01_Count.s0 : Nat → ByteArray → Int → Int → Option Int
  | 0, _, _, _ => none
  | k + 1, x0, x1, x2 => transomref01_Count.s0c (transomref01_Next.f k) (transomref01_Count.s0 k) x0 x1 x2 some
def transomref01_Count.f (k : Nat) (a0 : ByteArray) : Option Int := transomref01_Count.c (transomref01_Next.f k) (transomref01_Count.s0 k) a0 some
theorem transomref01_Count.is {g110 : G_transomref01_Next} {s0 : S_transomref01_Count_0} : FnIs (env_transomref01_Count g110 s0) 102 Go.Proofs.Tryz.f102 := ⟨Go.Proofs.Tryz.func102, rfl, rfl, rfl, by decide⟩
theorem transomref01_Count.envok {g110 : G_transomref01_Next} {s0 : S_transomref01_Count_0} (h110 : CtOK Go.Proofs.Tryz.prog 110 (ct_transomref01_Next g110)) : EnvOK (env_transomref01_Count g110 s0).toEnv := by
  intro f c h
  simp only [env_transomref01_Count] at h
  split at h
  · rename_i e; subst e; cases h; exact h110
  simp at h
noncomputable abbrev transomref01_Count.E (k : Nat) : FEnv := env_transomref01_Count (transomref01_Next.f k) (transomref01_Count.s0 k)
theorem transomref01_Count.hE (k : Nat) : EnvOK (transomref01_Count.E k).toEnv := transomref01_Count.envok (transomref01_Next.ok k)
theorem transomref01_Count.segs_ok : ∀ k, ∀ s ∈ (transomref01_Count.E k).segs, SegOK (transomref01_Count.E k) Go.Proofs.Tryz.f102 s
  | 0 => by
    intro s hs
    simp only [transomref01_Count.E, env_transomref01_Count, List.mem_cons, List.not_mem_nil, or_false] at hs
    rcases hs with rfl
    · intro tvs blks res h; exfalso; simp only [seg_transomref01_Count_0] at h; split at h <;> simp [transomref01_Count.s0] at h
  | k + 1 => by
    intro s hs
    simp only [transomref01_Count.E, env_transomref01_Count, List.mem_cons, List.not_mem_nil, or_false] at hs
    rcases hs with rfl
    · refine seg_of_ev (E := transomref01_Count.E k) (transomref01_Count.hE k) ⟨transomref01_Count.is.rvs⟩ (transomref01_Count.segs_ok k) ?_
      intro tvs blks res h
      simp only [seg_transomref01_Count_0] at h
      split at h
      · exact (transomref01_Count.s0_ev.trans transomref01_Count.s0c_bind).trans h
      · simp at h
theorem transomref01_Count.ok (k : Nat) : CtOK Go.Proofs.Tryz.prog 102 (ct_transomref01_Count (transomref01_Count.f k)) := by
  refine ct_of_ev (E := transomref01_Count.E k) transomref01_Count.is (transomref01_Count.hE k) (transomref01_Count.segs_ok k) rfl ?_
  intro tvs blks res h
  simp only [ct_transomref01_Count] at h
  split at h
  · exact (transomref01_Count.ev.trans transomref01_Count.c_bind).trans h
  · simp at h

/-! ### transomref01_Valid: function 82 -/
abbrev G_transomref01_Valid : Type := ByteArray → Option Bool
def ct_transomref01_Valid (g : G_transomref01_Valid) : Ct where
  nin := 0
  mv := []
  F := fun tvs blks {β} K => match tvs, blks with
    | [.v (.one (.d .str a0))], [] => (g a0).bind fun r => K ⟨.v (.one (.d .bool r)), []⟩
    | _, _ => none
  legit := fun tvs blks K r h => by
    split at h
    · obtain ⟨x, hx, hk⟩ := Option.bind_eq_some_iff.1 h
      refine ⟨_, ?_, hk⟩
      simp only [hx, Option.bind_some]
    · simp at h
noncomputable def env_transomref01_Valid (g102 : G_transomref01_Count)  : FEnv := { P := Go.Proofs.Tryz.prog, ct := fun m => if m = 102 then some (ct_transomref01_Count g102) else none, N := 6, body := Go.Proofs.Tryz.f82.body.getD .skip, rvs := [.tmp 2], rts := [4], nin := 0, rmv := [], segs := [] }
def transomref01_Valid.c {β : Type} (g102 : G_transomref01_Count)  (a0 : ByteArray) (ret : Bool → Option β) : Option β := ((g102 a0).bind fun r0 => (ret ((decide (r0 ≥ (0 : Int))))))
theorem transomref01_Valid.c_bind {β : Type} {g102 : G_transomref01_Count}  {a0 : ByteArray} {ret : Bool → Option β} : transomref01_Valid.c g102  a0 ret = (transomref01_Valid.c g102  a0 some).bind ret := by
  simp only [transomref01_Valid.c, bif_bind, sum_bind, Option.bind_assoc, Option.bind_some, Option.bind_none, Option.bind_fun_some]
theorem transomref01_Valid.ev {g102 : G_transomref01_Count}  {a0 : ByteArray} : evAt (env_transomref01_Valid g102 ) [] [0] [.v (.one (.d .str a0))] [] some = transomref01_Valid.c g102  a0 (fun r => some ⟨.v (.one (.d .bool r)), []⟩) := by
  kernel_rfl
def transomref01_Valid.f (k : Nat) (a0 : ByteArray) : Option Bool := transomref01_Valid.c (transomref01_Count.f k)  a0 some
theorem transomref01_Valid.is {g102 : G_transomref01_Count}  : FnIs (env_transomref01_Valid g102 ) 82 Go.Proofs.Tryz.f82 := ⟨Go.Proofs.Tryz.func82, rfl, rfl, rfl, by decide⟩
theorem transomref01_Valid.envok {g102 : G_transomref01_Count}  (h102 : CtOK Go.Proofs.Tryz.prog 102 (ct_transomref01_Count g102)) : EnvOK (env_transomref01_Valid g102 ).toEnv := by
  intro f c h
  simp only [env_transomref01_Valid] at h
  split at h
  · rename_i e; subst e; cases h; exact h102
  simp at h
noncomputable abbrev transomref01_Valid.E (k : Nat) : FEnv := env_transomref01_Valid (transomref01_Count.f k) 
theorem transomref01_Valid.hE (k : Nat) : EnvOK (transomref01_Valid.E k).toEnv := transomref01_Valid.envok (transomref01_Count.ok k)
theorem transomref01_Valid.ok (k : Nat) : CtOK Go.Proofs.Tryz.prog 82 (ct_transomref01_Valid (transomref01_Valid.f k)) := by
  refine ct_of_ev (E := transomref01_Valid.E k) transomref01_Valid.is (transomref01_Valid.hE k) (fun s hs => by simp [transomref01_Valid.E, env_transomref01_Valid] at hs) rfl ?_
  intro tvs blks res h
  simp only [ct_transomref01_Valid] at h
  split at h
  · exact (transomref01_Valid.ev.trans transomref01_Valid.c_bind).trans h
  · simp at h

/-! ### transomref04_Check: function 58 -/
abbrev G_transomref04_Check : Type := Int → Int → Int → ByteArray → Option Int
def ct_transomref04_Check (g : G_transomref04_Check) : Ct where
  nin := 0
  mv := []
  F := fun tvs blks {β} K => match tvs, blks with
    | [.v (.agg [(.d (.int .i64) a0), (.d (.int .i64) a1), (.d (.int .u64) a2), (.d .str a3)])], [] => (g a0 a1 a2 a3).bind fun r => K ⟨.v (.one (.d (.int .i64) r)), []⟩
    | _, _ => none
  legit := fun tvs blks K r h => by
    split at h
    · obtain ⟨x, hx, hk⟩ := Option.bind_eq_some_iff.1 h
      refine ⟨_, ?_, hk⟩
      simp only [hx, Option.bind_some]
    · simp at h
abbrev S_transomref04_Check_0 : Type := Bool → Int → Int → Int → ByteArray → Option Int
abbrev S_transomref04_Check_1 : Type := Bool → Bool → Int → Int → Int → ByteArray → Option Int
abbrev S_transomref04_Check_2 : Type := Bool → Bool → Bool → Int → Int → Int → ByteArray → Option Int
abbrev S_transomref04_Check_3 : Type := Bool → Int → Int → Int → ByteArray → Option Int
abbrev S_transomref04_Check_4 : Type := Bool → Int → Int → Int → ByteArray → Option Int
abbrev S_transomref04_Check_5 : Type := Bool → Int → Int → Int → ByteArray → Option Int
def seg_transomref04_Check_0 (g : S_transomref04_Check_0) : Seg where
  path := [1, 1]
  prep := []
  keep := [1, 3]
  F := fun tvs blks {β} K => match tvs, blks with
    | [.v (.one (.ptr 0 0)), .v (.one (.d .bool x0))], [some (.box [(.d (.int .i64) x1), (.d (.int .i64) x2), (.d (.int .u64) x3), (.d .str x4)])] => (g x0 x1 x2 x3 x4).bind fun r => K ⟨.v (.one (.d (.int .i64) r)), []⟩
    | _, _ => none
  legit := fun tvs blks K r h => by
    split at h
    · obtain ⟨x, hx, hk⟩ := Option.bind_eq_some_iff.1 h
      refine ⟨_, ?_, hk⟩
      simp only [hx, Option.bind_some]
    · simp at h
def seg_transomref04_Check_1 (g : S_transomref04_Check_1) : Seg where
  path := [1, 1, 1]
  prep := []
  keep := [1, 3, 4]
  F := fun tvs blks {β} K => match tvs, blks with
    | [.v (.one (.ptr 0 0)), .v (.one (.d .bool x0)), .v (.one (.d .bool x1))], [some (.box [(.d (.int .i64) x2), (.d (.int .i64) x3), (.d (.int .u64) x4), (.d .str x5)])] => (g x0 x1 x2 x3 x4 x5).bind fun r => K ⟨.v (.one (.d (.int .i64) r)), []⟩
    | _, _ => none
  legit := fun tvs blks K r h => by
    split at h
    · obtain ⟨x, hx, hk⟩ := Option.bind_eq_some_iff.1 h
      refine ⟨_, ?_, hk⟩
      simp only [hx, Option.bind_some]
    · simp at h
def seg_transomref04_Check_2 (g : S_transomref04_Check_2) : Seg where
  path := [1, 4, 0, 1, 1, 1]
  prep := []
  keep := [1, 3, 4, 21]
  F := fun tvs blks {β} K => match tvs, blks with
    | [.v (.one (.ptr 0 0)), .v (.one (.d .bool x0)), .v (.one (.d .bool x1)), .v (.one (.d .bool x2))], [some (.box [(.d (.int .i64) x3), (.d (.int .i64) x4), (.d (.int .u64) x5), (.d .str x6)])] => (g x0 x1 x2 x3 x4 x5 x6).bind fun r => K ⟨.v (.one (.d (.int .i64) r)), []⟩
    | _, _ => none
  legit := fun tvs blks K r h => by
    split at h
    · obtain ⟨x, hx, hk⟩ := Option.bind_eq_some_iff.1 h
      refine ⟨_, ?_, hk⟩
      simp only [hx, Option.bind_some]
    · simp at h
def seg_transomref04_Check_3 (g : S_transomref04_Check_3) : Seg where
  path := [1, 3, 1, 4, 0, 1, 1, 1]
  prep := []
  keep := [1, 30]
  F := fun tvs blks {β} K => match tvs, blks with
    | [.v (.one (.ptr 0 0)), .v (.one (.d .bool x0))], [some (.box [(.d (.int .i64) x1), (.d (.int .i64) x2), (.d (.int .u64) x3), (.d .str x4)])] => (g x0 x1 x2 x3 x4).bind fun r => K ⟨.v (.one (.d (.int .i64) r)), []⟩
    | _, _ => none
  legit := fun tvs blks K r h => by
    split at h
    · obtain ⟨x, hx, hk⟩ := Option.bind_eq_some_iff.1 h
      refine ⟨_, ?_, hk⟩
      simp only [hx, Option.bind_some]
    · simp at h
def seg_transomref04_Check_4 (g : S_transomref04_Check_4) : Seg where
  path := [1, 3, 1, 3, 1, 4, 0, 1, 1, 1]
  prep := []
  keep := [1, 57]
  F := fun tvs blks {β} K => match tvs, blks with
    | [.v (.one (.ptr 0 0)), .v (.one (.d .bool x0))], [some (.box [(.d (.int .i64) x1), (.d (.int .i64) x2), (.d (.int .u64) x3), (.d .str x4)])] => (g x0 x1 x2 x3 x4).bind fun r => K ⟨.v (.one (.d (.int .i64) r)), []⟩
    | _, _ => none
  legit := fun tvs blks K r h => by
    split at h
    · obtain ⟨x, hx, hk⟩ := Option.bind_eq_some_iff.1 h
      refine ⟨_, ?_, hk⟩
      simp only [hx, Option.bind_some]
    · simp at h
def seg_transomref04_Check_5 (g : S_transomref04_Check_5) : Seg where
  path := [1, 3, 1, 3, 1, 3, 1, 4, 0, 1, 1, 1]
  prep := []
  keep := [1, 71]
  F := fun tvs blks {β} K => match tvs, blks with
    | [.v (.one (.ptr 0 0)), .v (.one (.d .bool x0))], [some (.box [(.d (.int .i64) x1), (.d (.int .i64) x2), (.d (.int .u64) x3), (.d .str x4)])] => (g x0 x1 x2 x3 x4).bind fun r => K ⟨.v (.one (.d (.int .i64) r)), []⟩
    | _, _ => none
  legit := fun tvs blks K r h => by
    split at h
    · obtain ⟨x, hx, hk⟩ := Option.bind_eq_some_iff.1 h
      refine ⟨_, ?_, hk⟩
      simp only [hx, Option.bind_some]
    · simp at h
noncomputable def env_transomref04_Check (g81 : G_transomref02_Canon) (g82 : G_transomref01_Valid) (s0 : S_transomref04_Check_0) (s1 : S_transomref04_Check_1) (s2 : S_transomref04_Check_2) (s3 : S_transomref04_Check_3) (s4 : S_transomref04_Check_4) (s5 : S_transomref04_Check_5) : FEnv := { P := Go.Proofs.Tryz.prog, ct := fun m => if m = 81 then some (ct_transomref02_Canon g81) else if m = 82 then some (ct_transomref01_Valid g82) else none, N := 98, body := Go.Proofs.Tryz.f58.body.getD .skip, rvs := [.tmp 2], rts := [3], nin := 0, rmv := [], segs := [seg_transomref04_Check_0 s0, seg_transomref04_Check_1 s1, seg_transomref04_Check_2 s2, seg_transomref04_Check_3 s3, seg_transomref04_Check_4 s4, seg_transomref04_Check_5 s5] }
def transomref04_Check.c {β : Type} (g81 : G_transomref02_Canon) (g82 : G_transomref01_Valid) (s0 : S_transomref04_Check_0) (s1 : S_transomref04_Check_1) (s2 : S_transomref04_Check_2) (s3 : S_transomref04_Check_3) (s4 : S_transomref04_Check_4) (s5 : S_transomref04_Check_5) (a0 : Int) (a1 : Int) (a2 : Int) (a3 : ByteArray) (ret : Int → Option β) : Option β := (bif (a0 == (1 : Int)) then ((s0 true a0 a1 a2 a3).bind ret) else ((s0 (a0 == (2 : Int)) a0 a1 a2 a3).bind ret))
def transomref04_Check.s0c {β : Type} (g81 : G_transomref02_Canon) (g82 : G_transomref01_Valid) (s0 : S_transomref04_Check_0) (s1 : S_transomref04_Check_1) (s2 : S_transomref04_Check_2) (s3 : S_transomref04_Check_3) (s4 : S_transomref04_Check_4) (s5 : S_transomref04_Check_5) (x0 : Bool) (x1 : Int) (x2 : Int) (x3 : Int) (x4 : ByteArray) (ret : Int → Option β) : Option β := (bif (x1 == (4 : Int)) then ((s1 x0 true x1 x2 x3 x4).bind ret) else ((s1 x0 (x1 == (5 : Int)) x1 x2 x3 x4).bind ret))
def transomref04_Check.s1c {β : Type} (g81 : G_transomref02_Canon) (g82 : G_transomref01_Valid) (s0 : S_transomref04_Check_0) (s1 : S_transomref04_Check_1) (s2 : S_transomref04_Check_2) (s3 : S_transomref04_Check_3) (s4 : S_transomref04_Check_4) (s5 : S_transomref04_Check_5) (x0 : Bool) (x1 : Bool) (x2 : Int) (x3 : Int) (x4 : Int) (x5 : ByteArray) (ret : Int → Option β) : Option β := (bif (decide (x2 < (0 : Int))) then ((s2 x0 x1 true x2 x3 x4 x5).bind ret) else ((s2 x0 x1 (decide (x2 > (5 : Int))) x2 x3 x4 x5).bind ret))
def transomref04_Check.s2c {β : Type} (g81 : G_transomref02_Canon) (g82 : G_transomref01_Valid) (s0 : S_transomref04_Check_0) (s1 : S_transomref04_Check_1) (s2 : S_transomref04_Check_2) (s3 : S_transomref04_Check_3) (s4 : S_transomref04_Check_4) (s5 : S_transomref04_Check_5) (x0 : Bool) (x1 : Bool) (x2 : Bool) (x3 : Int) (x4 : Int) (x5 : Int) (x6 : ByteArray) (ret : Int → Option β) : Option β := (bif x2 then (ret ((5 : Int))) else (bif (x4 != (0 : Int)) then (bif (!x0) then ((s3 true x3 x4 x5 x6).bind ret) else (bif (x5 != (0 : Int)) then (bif (x3 != (3 : Int)) then ((s3 true x3 x4 x5 x6).bind ret) else (bif (!((ByteArray.toList x6) == (ByteArray.toList (ByteArray.mk (List.toArray []))))) then ((s3 (!x1) x3 x4 x5 x6).bind ret) else ((s3 false x3 x4 x5 x6).bind ret))) else (bif (!((ByteArray.toList x6) == (ByteArray.toList (ByteArray.mk (List.toArray []))))) then ((s3 (!x1) x3 x4 x5 x6).bind ret) else ((s3 false x3 x4 x5 x6).bind ret)))) else (bif (x5 != (0 : Int)) then (bif (x3 != (3 : Int)) then ((s3 true x3 x4 x5 x6).bind ret) else (bif (!((ByteArray.toList x6) == (ByteArray.toList (ByteArray.mk (List.toArray []))))) then ((s3 (!x1) x3 x4 x5 x6).bind ret) else ((s3 false x3 x4 x5 x6).bind ret))) else (bif (!((ByteArray.toList x6) == (ByteArray.toList (ByteArray.mk (List.toArray []))))) then ((s3 (!x1) x3 x4 x5 x6).bind ret) else ((s3 false x3 x4 x5 x6).bind ret)))))
def transomref04_Check.s3c {β : Type} (g81 : G_transomref02_Canon) (g82 : G_transomref01_Valid) (s0 : S_transomref04_Check_0) (s1 : S_transomref04_Check_1) (s2 : S_transomref04_Check_2) (s3 : S_transomref04_Check_3) (s4 : S_transomref04_Check_4) (s5 : S_transomref04_Check_5) (x0 : Bool) (x1 : Int) (x2 : Int) (x3 : Int) (x4 : ByteArray) (ret : Int → Option β) : Option β := (bif x0 then (ret ((4 : Int))) else (bif (x1 == (1 : Int)) then (bif (x2 != (0 : Int)) then ((s4 (x2 != (1 : Int)) x1 x2 x3 x4).bind ret) else ((s4 false x1 x2 x3 x4).bind ret)) else ((s4 false x1 x2 x3 x4).bind ret)))
def transomref04_Check.s4c {β : Type} (g81 : G_transomref02_Canon) (g82 : G_transomref01_Valid) (s0 : S_transomref04_Check_0) (s1 : S_transomref04_Check_1) (s2 : S_transomref04_Check_2) (s3 : S_transomref04_Check_3) (s4 : S_transomref04_Check_4) (s5 : S_transomref04_Check_5) (x0 : Bool) (x1 : Int) (x2 : Int) (x3 : Int) (x4 : ByteArray) (ret : Int → Option β) : Option β := (bif x0 then (ret ((6 : Int))) else (bif (x1 == (3 : Int)) then ((g81 x3).bind fun r0 => ((s5 (r0 != x3) x1 x2 x3 x4).bind ret)) else ((s5 false x1 x2 x3 x4).bind ret)))
def transomref04_Check.s5c {β : Type} (g81 : G_transomref02_Canon) (g82 : G_transomref01_Valid) (s0 : S_transomref04_Check_0) (s1 : S_transomref04_Check_1) (s2 : S_transomref04_Check_2) (s3 : S_transomref04_Check_3) (s4 : S_transomref04_Check_4) (s5 : S_transomref04_Check_5) (x0 : Bool) (x1 : Int) (x2 : Int) (x3 : Int) (x4 : ByteArray) (ret : Int → Option β) : Option β := (bif x0 then (ret ((4 : Int))) else (bif (decide (((ByteArray.size x4) : Int) > (64 : Int))) then (ret ((2 : Int))) else (bif (x1 == (5 : Int)) then ((g82 x4).bind fun r0 => (bif (!r0) then (ret ((7 : Int))) else (ret ((0 : Int))))) else (ret ((0 : Int))))))
theorem transomref04_Check.c_bind {β : Type} {g81 : G_transomref02_Canon} {g82 : G_transomref01_Valid} {s0 : S_transomref04_Check_0} {s1 : S_transomref04_Check_1} {s2 : S_transomref04_Check_2} {s3 : S_transomref04_Check_3} {s4 : S_transomref04_Check_4} {s5 : S_transomref04_Check_5} {a0 : Int} {a1 : Int} {a2 : Int} {a3 : ByteArray} {ret : Int → Option β} : transomref04_Check.c g81 g82 s0 s1 s2 s3 s4 s5 a0 a1 a2 a3 ret = (transomref04_Check.c g81 g82 s0 s1 s2 s3 s4 s5 a0 a1 a2 a3 some).bind ret := by
  simp only [transomref04_Check.c, bif_bind, sum_bind, Option.bind_assoc, Option.bind_some, Option.bind_none, Option.bind_fun_some]
theorem transomref04_Check.s0c_bind {β : Type} {g81 : G_transomref02_Canon} {g82 : G_transomref01_Valid} {s0 : S_transomref04_Check_0} {s1 : S_transomref04_Check_1} {s2 : S_transomref04_Check_2} {s3 : S_transomref04_Check_3} {s4 : S_transomref04_Check_4} {s5 : S_transomref04_Check_5} {x0 : Bool} {x1 : Int} {x2 : Int} {x3 : Int} {x4 : ByteArray} {ret : Int → Option β} : transomref04_Check.s0c g81 g82 s0 s1 s2 s3 s4 s5 x0 x1 x2 x3 x4 ret = (transomref04_Check.s0c g81 g82 s0 s1 s2 s3 s4 s5 x0 x1 x2 x3 x4 some).bind ret := by
  simp only [transomref04_Check.s0c, bif_bind, sum_bind, Option.bind_assoc, Option.bind_some, Option.bind_none, Option.bind_fun_some]
theorem transomref04_Check.s1c_bind {β : Type} {g81 : G_transomref02_Canon} {g82 : G_transomref01_Valid} {s0 : S_transomref04_Check_0} {s1 : S_transomref04_Check_1} {s2 : S_transomref04_Check_2} {s3 : S_transomref04_Check_3} {s4 : S_transomref04_Check_4} {s5 : S_transomref04_Check_5} {x0 : Bool} {x1 : Bool} {x2 : Int} {x3 : Int} {x4 : Int} {x5 : ByteArray} {ret : Int → Option β} : transomref04_Check.s1c g81 g82 s0 s1 s2 s3 s4 s5 x0 x1 x2 x3 x4 x5 ret = (transomref04_Check.s1c g81 g82 s0 s1 s2 s3 s4 s5 x0 x1 x2 x3 x4 x5 some).bind ret := by
  simp only [transomref04_Check.s1c, bif_bind, sum_bind, Option.bind_assoc, Option.bind_some, Option.bind_none, Option.bind_fun_some]
theorem transomref04_Check.s2c_bind {β : Type} {g81 : G_transomref02_Canon} {g82 : G_transomref01_Valid} {s0 : S_transomref04_Check_0} {s1 : S_transomref04_Check_1} {s2 : S_transomref04_Check_2} {s3 : S_transomref04_Check_3} {s4 : S_transomref04_Check_4} {s5 : S_transomref04_Check_5} {x0 : Bool} {x1 : Bool} {x2 : Bool} {x3 : Int} {x4 : Int} {x5 : Int} {x6 : ByteArray} {ret : Int → Option β} : transomref04_Check.s2c g81 g82 s0 s1 s2 s3 s4 s5 x0 x1 x2 x3 x4 x5 x6 ret = (transomref04_Check.s2c g81 g82 s0 s1 s2 s3 s4 s5 x0 x1 x2 x3 x4 x5 x6 some).bind ret := by
  simp only [transomref04_Check.s2c, bif_bind, sum_bind, Option.bind_assoc, Option.bind_some, Option.bind_none, Option.bind_fun_some]
theorem transomref04_Check.s3c_bind {β : Type} {g81 : G_transomref02_Canon} {g82 : G_transomref01_Valid} {s0 : S_transomref04_Check_0} {s1 : S_transomref04_Check_1} {s2 : S_transomref04_Check_2} {s3 : S_transomref04_Check_3} {s4 : S_transomref04_Check_4} {s5 : S_transomref04_Check_5} {x0 : Bool} {x1 : Int} {x2 : Int} {x3 : Int} {x4 : ByteArray} {ret : Int → Option β} : transomref04_Check.s3c g81 g82 s0 s1 s2 s3 s4 s5 x0 x1 x2 x3 x4 ret = (transomref04_Check.s3c g81 g82 s0 s1 s2 s3 s4 s5 x0 x1 x2 x3 x4 some).bind ret := by
  simp only [transomref04_Check.s3c, bif_bind, sum_bind, Option.bind_assoc, Option.bind_some, Option.bind_none, Option.bind_fun_some]
theorem transomref04_Check.s4c_bind {β : Type} {g81 : G_transomref02_Canon} {g82 : G_transomref01_Valid} {s0 : S_transomref04_Check_0} {s1 : S_transomref04_Check_1} {s2 : S_transomref04_Check_2} {s3 : S_transomref04_Check_3} {s4 : S_transomref04_Check_4} {s5 : S_transomref04_Check_5} {x0 : Bool} {x1 : Int} {x2 : Int} {x3 : Int} {x4 : ByteArray} {ret : Int → Option β} : transomref04_Check.s4c g81 g82 s0 s1 s2 s3 s4 s5 x0 x1 x2 x3 x4 ret = (transomref04_Check.s4c g81 g82 s0 s1 s2 s3 s4 s5 x0 x1 x2 x3 x4 some).bind ret := by
  simp only [transomref04_Check.s4c, bif_bind, sum_bind, Option.bind_assoc, Option.bind_some, Option.bind_none, Option.bind_fun_some]
theorem transomref04_Check.s5c_bind {β : Type} {g81 : G_transomref02_Canon} {g82 : G_transomref01_Valid} {s0 : S_transomref04_Check_0} {s1 : S_transomref04_Check_1} {s2 : S_transomref04_Check_2} {s3 : S_transomref04_Check_3} {s4 : S_transomref04_Check_4} {s5 : S_transomref04_Check_5} {x0 : Bool} {x1 : Int} {x2 : Int} {x3 : Int} {x4 : ByteArray} {ret : Int → Option β} : transomref04_Check.s5c g81 g82 s0 s1 s2 s3 s4 s5 x0 x1 x2 x3 x4 ret = (transomref04_Check.s5c g81 g82 s0 s1 s2 s3 s4 s5 x0 x1 x2 x3 x4 some).bind ret := by
  simp only [transomref04_Check.s5c, bif_bind, sum_bind, Option.bind_assoc, Option.bind_some, Option.bind_none, Option.bind_fun_some]
theorem transomref04_Check.ev {g81 : G_transomref02_Canon} {g82 : G_transomref01_Valid} {s0 : S_transomref04_Check_0} {s1 : S_transomref04_Check_1} {s2 : S_transomref04_Check_2} {s3 : S_transomref04_Check_3} {s4 : S_transomref04_Check_4} {s5 : S_transomref04_Check_5} {a0 : Int} {a1 : Int} {a2 : Int} {a3 : ByteArray} : evAt (env_transomref04_Check g81 g82 s0 s1 s2 s3 s4 s5) [] [0] [.v (.agg [(.d (.int .i64) a0), (.d (.int .i64) a1), (.d (.int .u64) a2), (.d .str a3)])] [] some = transomref04_Check.c g81 g82 s0 s1 s2 s3 s4 s5 a0 a1 a2 a3 (fun r => some ⟨.v (.one (.d (.int .i64) r)), []⟩) := by
  kernel_rfl
theorem transomref04_Check.s0_ev {g81 : G_transomref02_Canon} {g82 : G_transomref01_Valid} {s0 : S_transomref04_Check_0} {s1 : S_transomref04_Check_1} {s2 : S_transomref04_Check_2} {s3 : S_transomref04_Check_3} {s4 : S_transomref04_Check_4} {s5 : S_transomref04_Check_5} {x0 : Bool} {x1 : Int} {x2 : Int} {x3 : Int} {x4 : ByteArray} : evAt (env_transomref04_Check g81 g82 s0 s1 s2 s3 s4 s5) [1, 1] [1, 3] [.v (.one (.ptr 0 0)), .v (.one (.d .bool x0))] [some (.box [(.d (.int .i64) x1), (.d (.int .i64) x2), (.d (.int .u64) x3), (.d .str x4)])] some = transomref04_Check.s0c g81 g82 s0 s1 s2 s3 s4 s5 x0 x1 x2 x3 x4 (fun r => some ⟨.v (.one (.d (.int .i64) r)), []⟩) := by
  kernel_rfl
theorem transomref04_Check.s1_ev {g81 : G_transomref02_Canon} {g82 : G_transomref01_Valid} {s0 : S_transomref04_Check_0} {s1 : S_transomref04_Check_1} {s2 : S_transomref04_Check_2} {s3 : S_transomref04_Check_3} {s4 : S_transomref04_Check_4} {s5 : S_transomref04_Check_5} {x0 : Bool} {x1 : Bool} {x2 : Int} {x3 : Int} {x4 : Int} {x5 : ByteArray} : evAt (env_transomref04_Check g81 g82 s0 s1 s2 s3 s4 s5) [1, 1, 1] [1, 3, 4] [.v (.one (.ptr 0 0)), .v (.one (.d .bool x0)), .v (.one (.d .bool x1))] [some (.box [(.d (.int .i64) x2), (.d (.int .i64) x3), (.d (.int .u64) x4), (.d .str x5)])] some = transomref04_Check.s1c g81 g82 s0 s1 s2 s3 s4 s5 x0 x1 x2 x3 x4 x5 (fun r => some ⟨.v (.one (.d (.int .i64) r)), []⟩) := by
  kernel_rfl
theorem transomref04_Check.s2_ev {g81 : G_transomref02_Canon} {g82 : G_transomref01_Valid} {s0 : S_transomref04_Check_0} {s1 : S_transomref04_Check_1} {s2 : S_transomref04_Check_2} {s3 : S_transomref04_Check_3} {s4 : S_transomref04_Check_4} {s5 : S_transomref04_Check_5} {x0 : Bool} {x1 : Bool} {x2 : Bool} {x3 : Int} {x4 : Int} {x5 : Int} {x6 : ByteArray} : evAt (env_transomref04_Check g81 g82 s0 s1 s2 s3 s4 s5) [1, 4, 0, 1, 1, 1] [1, 3, 4, 21] [.v (.one (.ptr 0 0)), .v (.one (.d .bool x0)), .v (.one (.d .bool x1)), .v (.one (.d .bool x2))] [some (.box [(.d (.int .i64) x3), (.d (.int .i64) x4), (.d (.int .u64) x5), (.d .str x6)])] some = transomref04_Check.s2c g81 g82 s0 s1 s2 s3 s4 s5 x0 x1 x2 x3 x4 x5 x6 (fun r => some ⟨.v (.one (.d (.int .i64) r)), []⟩) := by
  kernel_rfl
theorem transomref04_Check.s3_ev {g81 : G_transomref02_Canon} {g82 : G_transomref01_Valid} {s0 : S_transomref04_Check_0} {s1 : S_transomref04_Check_1} {s2 : S_transomref04_Check_2} {s3 : S_transomref04_Check_3} {s4 : S_transomref04_Check_4} {s5 : S_transomref04_Check_5} {x0 : Bool} {x1 : Int} {x2 : Int} {x3 : Int} {x4 : ByteArray} : evAt (env_transomref04_Check g81 g82 s0 s1 s2 s3 s4 s5) [1, 3, 1, 4, 0, 1, 1, 1] [1, 30] [.v (.one (.ptr 0 0)), .v (.one (.d .bool x0))] [some (.box [(.d (.int .i64) x1), (.d (.int .i64) x2), (.d (.int .u64) x3), (.d .str x4)])] some = transomref04_Check.s3c g81 g82 s0 s1 s2 s3 s4 s5 x0 x1 x2 x3 x4 (fun r => some ⟨.v (.one (.d (.int .i64) r)), []⟩) := by
  kernel_rfl
theorem transomref04_Check.s4_ev {g81 : G_transomref02_Canon} {g82 : G_transomref01_Valid} {s0 : S_transomref04_Check_0} {s1 : S_transomref04_Check_1} {s2 : S_transomref04_Check_2} {s3 : S_transomref04_Check_3} {s4 : S_transomref04_Check_4} {s5 : S_transomref04_Check_5} {x0 : Bool} {x1 : Int} {x2 : Int} {x3 : Int} {x4 : ByteArray} : evAt (env_transomref04_Check g81 g82 s0 s1 s2 s3 s4 s5) [1, 3, 1, 3, 1, 4, 0, 1, 1, 1] [1, 57] [.v (.one (.ptr 0 0)), .v (.one (.d .bool x0))] [some (.box [(.d (.int .i64) x1), (.d (.int .i64) x2), (.d (.int .u64) x3), (.d .str x4)])] some = transomref04_Check.s4c g81 g82 s0 s1 s2 s3 s4 s5 x0 x1 x2 x3 x4 (fun r => some ⟨.v (.one (.d (.int .i64) r)), []⟩) := by
  kernel_rfl
theorem transomref04_Check.s5_ev {g81 : G_transomref02_Canon} {g82 : G_transomref01_Valid} {s0 : S_transomref04_Check_0} {s1 : S_transomref04_Check_1} {s2 : S_transomref04_Check_2} {s3 : S_transomref04_Check_3} {s4 : S_transomref04_Check_4} {s5 : S_transomref04_Check_5} {x0 : Bool} {x1 : Int} {x2 : Int} {x3 : Int} {x4 : ByteArray} : evAt (env_transomref04_Check g81 g82 s0 s1 s2 s3 s4 s5) [1, 3, 1, 3, 1, 3, 1, 4, 0, 1, 1, 1] [1, 71] [.v (.one (.ptr 0 0)), .v (.one (.d .bool x0))] [some (.box [(.d (.int .i64) x1), (.d (.int .i64) x2), (.d (.int .u64) x3), (.d .str x4)])] some = transomref04_Check.s5c g81 g82 s0 s1 s2 s3 s4 s5 x0 x1 x2 x3 x4 (fun r => some ⟨.v (.one (.d (.int .i64) r)), []⟩) := by
  kernel_rfl
mutual
def transomref04_Check.s0 : Nat → Bool → Int → Int → Int → ByteArray → Option Int
  | 0, _, _, _, _, _ => none
  | k + 1, x0, x1, x2, x3, x4 => transomref04_Check.s0c (transomref02_Canon.f k) (transomref01_Valid.f k) (transomref04_Check.s0 k) (transomref04_Check.s1 k) (transomref04_Check.s2 k) (transomref04_Check.s3 k) (transomref04_Check.s4 k) (transomref04_Check.s5 k) x0 x1 x2 x3 x4 some
def transomref04_Check.s1 : Nat → Bool → Bool → Int → Int → Int → ByteArray → Option Int
  | 0, _, _, _, _, _, _ => none
  | k + 1, x0, x1, x2, x3, x4, x5 => transomref04_Check.s1c (transomref02_Canon.f k) (transomref01_Valid.f k) (transomref04_Check.s0 k) (transomref04_Check.s1 k) (transomref04_Check.s2 k) (transomref04_Check.s3 k) (transomref04_Check.s4 k) (transomref04_Check.s5 k) x0 x1 x2 x3 x4 x5 some
def transomref04_Check.s2 : Nat → Bool → Bool → Bool → Int → Int → Int → ByteArray → Option Int
  | 0, _, _, _, _, _, _, _ => none
  | k + 1, x0, x1, x2, x3, x4, x5, x6 => transomref04_Check.s2c (transomref02_Canon.f k) (transomref01_Valid.f k) (transomref04_Check.s0 k) (transomref04_Check.s1 k) (transomref04_Check.s2 k) (transomref04_Check.s3 k) (transomref04_Check.s4 k) (transomref04_Check.s5 k) x0 x1 x2 x3 x4 x5 x6 some
def transomref04_Check.s3 : Nat → Bool → Int → Int → Int → ByteArray → Option Int
  | 0, _, _, _, _, _ => none
  | k + 1, x0, x1, x2, x3, x4 => transomref04_Check.s3c (transomref02_Canon.f k) (transomref01_Valid.f k) (transomref04_Check.s0 k) (transomref04_Check.s1 k) (transomref04_Check.s2 k) (transomref04_Check.s3 k) (transomref04_Check.s4 k) (transomref04_Check.s5 k) x0 x1 x2 x3 x4 some
def transomref04_Check.s4 : Nat → Bool → Int → Int → Int → ByteArray → Option Int
  | 0, _, _, _, _, _ => none
  | k + 1, x0, x1, x2, x3, x4 => transomref04_Check.s4c (transomref02_Canon.f k) (transomref01_Valid.f k) (transomref04_Check.s0 k) (transomref04_Check.s1 k) (transomref04_Check.s2 k) (transomref04_Check.s3 k) (transomref04_Check.s4 k) (transomref04_Check.s5 k) x0 x1 x2 x3 x4 some
def transomref04_Check.s5 : Nat → Bool → Int → Int → Int → ByteArray → Option Int
  | 0, _, _, _, _, _ => none
  | k + 1, x0, x1, x2, x3, x4 => transomref04_Check.s5c (transomref02_Canon.f k) (transomref01_Valid.f k) (transomref04_Check.s0 k) (transomref04_Check.s1 k) (transomref04_Check.s2 k) (transomref04_Check.s3 k) (transomref04_Check.s4 k) (transomref04_Check.s5 k) x0 x1 x2 x3 x4 some
end
def transomref04_Check.f (k : Nat) (a0 : Int) (a1 : Int) (a2 : Int) (a3 : ByteArray) : Option Int := transomref04_Check.c (transomref02_Canon.f k) (transomref01_Valid.f k) (transomref04_Check.s0 k) (transomref04_Check.s1 k) (transomref04_Check.s2 k) (transomref04_Check.s3 k) (transomref04_Check.s4 k) (transomref04_Check.s5 k) a0 a1 a2 a3 some
theorem transomref04_Check.is {g81 : G_transomref02_Canon} {g82 : G_transomref01_Valid} {s0 : S_transomref04_Check_0} {s1 : S_transomref04_Check_1} {s2 : S_transomref04_Check_2} {s3 : S_transomref04_Check_3} {s4 : S_transomref04_Check_4} {s5 : S_transomref04_Check_5} : FnIs (env_transomref04_Check g81 g82 s0 s1 s2 s3 s4 s5) 58 Go.Proofs.Tryz.f58 := ⟨Go.Proofs.Tryz.func58, rfl, rfl, rfl, by decide⟩
theorem transomref04_Check.envok {g81 : G_transomref02_Canon} {g82 : G_transomref01_Valid} {s0 : S_transomref04_Check_0} {s1 : S_transomref04_Check_1} {s2 : S_transomref04_Check_2} {s3 : S_transomref04_Check_3} {s4 : S_transomref04_Check_4} {s5 : S_transomref04_Check_5} (h81 : CtOK Go.Proofs.Tryz.prog 81 (ct_transomref02_Canon g81)) (h82 : CtOK Go.Proofs.Tryz.prog 82 (ct_transomref01_Valid g82)) : EnvOK (env_transomref04_Check g81 g82 s0 s1 s2 s3 s4 s5).toEnv := by
  intro f c h
  simp only [env_transomref04_Check] at h
  split at h
  · rename_i e; subst e; cases h; exact h81
  split at h
  · rename_i e; subst e; cases h; exact h82
  simp at h
noncomputable abbrev transomref04_Check.E (k : Nat) : FEnv := env_transomref04_Check (transomref02_Canon.f k) (transomref01_Valid.f k) (transomref04_Check.s0 k) (transomref04_Check.s1 k) (transomref04_Check.s2 k) (transomref04_Check.s3 k) (transomref04_Check.s4 k) (transomref04_Check.s5 k)
theorem transomref04_Check.hE (k : Nat) : EnvOK (transomref04_Check.E k).toEnv := transomref04_Check.envok (transomref02_Canon.ok k) (transomref01_Valid.ok k)
theorem transomref04_Check.segs_ok : ∀ k, ∀ s ∈ (transomref04_Check.E k).segs, SegOK (transomref04_Check.E k) Go.Proofs.Tryz.f58 s
  | 0 => by
    intro s hs
    simp only [transomref04_Check.E, env_transomref04_Check, List.mem_cons, List.not_mem_nil, or_false] at hs
    rcases hs with rfl | rfl | rfl | rfl | rfl | rfl
    · intro tvs blks res h; exfalso; simp only [seg_transomref04_Check_0] at h; split at h <;> simp [transomref04_Check.s0] at h
    · intro tvs blks res h; exfalso; simp only [seg_transomref04_Check_1] at h; split at h <;> simp [transomref04_Check.s1] at h
    · intro tvs blks res h; exfalso; simp only [seg_transomref04_Check_2] at h; split at h <;> simp [transomref04_Check.s2] at h
    · intro tvs blks res h; exfalso; simp only [seg_transomref04_Check_3] at h; split at h <;> simp [transomref04_Check.s3] at h
    · intro tvs blks res h; exfalso; simp only [seg_transomref04_Check_4] at h; split at h <;> simp [transomref04_Check.s4] at h
    · intro tvs blks res h; exfalso; simp only [seg_transomref04_Check_5] at h; split at h <;> simp [transomref04_Check.s5] at h
  | k + 1 => by
    intro s hs
    simp only [transomref04_Check.E, env_transomref04_Check, List.mem_cons, List.not_mem_nil, or_false] at hs
    rcases hs with rfl | rfl | rfl | rfl | rfl | rfl
    · refine seg_of_ev (E := transomref04_Check.E k) (transomref04_Check.hE k) ⟨transomref04_Check.is.rvs⟩ (transomref04_Check.segs_ok k) ?_
      intro tvs blks res h
      simp only [seg_transomref04_Check_0] at h
      split at h
      · exact (transomref04_Check.s0_ev.trans transomref04_Check.s0c_bind).trans h
      · simp at h
    · refine seg_of_ev (E := transomref04_Check.E k) (transomref04_Check.hE k) ⟨transomref04_Check.is.rvs⟩ (transomref04_Check.segs_ok k) ?_
      intro tvs blks res h
      simp only [seg_transomref04_Check_1] at h
      split at h
      · exact (transomref04_Check.s1_ev.trans transomref04_Check.s1c_bind).trans h
      · simp at h
    · refine seg_of_ev (E := transomref04_Check.E k) (transomref04_Check.hE k) ⟨transomref04_Check.is.rvs⟩ (transomref04_Check.segs_ok k) ?_
      intro tvs blks res h
      simp only [seg_transomref04_Check_2] at h
      split at h
      · exact (transomref04_Check.s2_ev.trans transomref04_Check.s2c_bind).trans h
      · simp at h
    · refine seg_of_ev (E := transomref04_Check.E k) (transomref04_Check.hE k) ⟨transomref04_Check.is.rvs⟩ (transomref04_Check.segs_ok k) ?_
      intro tvs blks res h
      simp only [seg_transomref04_Check_3] at h
      split at h
      · exact (transomref04_Check.s3_ev.trans transomref04_Check.s3c_bind).trans h
      · simp at h
    · refine seg_of_ev (E := transomref04_Check.E k) (transomref04_Check.hE k) ⟨transomref04_Check.is.rvs⟩ (transomref04_Check.segs_ok k) ?_
      intro tvs blks res h
      simp only [seg_transomref04_Check_4] at h
      split at h
      · exact (transomref04_Check.s4_ev.trans transomref04_Check.s4c_bind).trans h
      · simp at h
    · refine seg_of_ev (E := transomref04_Check.E k) (transomref04_Check.hE k) ⟨transomref04_Check.is.rvs⟩ (transomref04_Check.segs_ok k) ?_
      intro tvs blks res h
      simp only [seg_transomref04_Check_5] at h
      split at h
      · exact (transomref04_Check.s5_ev.trans transomref04_Check.s5c_bind).trans h
      · simp at h
theorem transomref04_Check.ok (k : Nat) : CtOK Go.Proofs.Tryz.prog 58 (ct_transomref04_Check (transomref04_Check.f k)) := by
  refine ct_of_ev (E := transomref04_Check.E k) transomref04_Check.is (transomref04_Check.hE k) (transomref04_Check.segs_ok k) rfl ?_
  intro tvs blks res h
  simp only [ct_transomref04_Check] at h
  split at h
  · exact (transomref04_Check.ev.trans transomref04_Check.c_bind).trans h
  · simp at h

/-! ### transomref09_CheckCol: function 55 -/
abbrev G_transomref09_CheckCol : Type := ByteArray → Int → Bool → Int → Int → Int → ByteArray → Option Int
def ct_transomref09_CheckCol (g : G_transomref09_CheckCol) : Ct where
  nin := 0
  mv := []
  F := fun tvs blks {β} K => match tvs, blks with
    | [.v (.agg [(.d .str a0), (.d (.int .i64) a1), (.d .bool a2), (.d (.int .i64) a3), (.d (.int .i64) a4), (.d (.int .u64) a5), (.d .str a6)])], [] => (g a0 a1 a2 a3 a4 a5 a6).bind fun r => K ⟨.v (.one (.d (.int .i64) r)), []⟩
    | _, _ => none
  legit := fun tvs blks K r h => by
    split at h
    · obtain ⟨x, hx, hk⟩ := Option.bind_eq_some_iff.1 h
      refine ⟨_, ?_, hk⟩
      simp only [hx, Option.bind_some]
    · simp at h
abbrev S_transomref09_CheckCol_0 : Type := Bool → ByteArray → Int → Bool → Int → Int → Int → ByteArray → Option Int
abbrev S_transomref09_CheckCol_1 : Type := ByteArray → Int → Bool → Int → Int → Int → ByteArray → Option Int
def seg_transomref09_CheckCol_0 (g : S_transomref09_CheckCol_0) : Seg where
  path := [1, 0, 1, 1]
  prep := []
  keep := [1, 18]
  F := fun tvs blks {β} K => match tvs, blks with
    | [.v (.one (.ptr 0 0)), .v (.one (.d .bool x0))], [some (.box [(.d .str x1), (.d (.int .i64) x2), (.d .bool x3), (.d (.int .i64) x4), (.d (.int .i64) x5), (.d (.int .u64) x6), (.d .str x7)])] => (g x0 x1 x2 x3 x4 x5 x6 x7).bind fun r => K ⟨.v (.one (.d (.int .i64) r)), []⟩
    | _, _ => none
  legit := fun tvs blks K r h => by
    split at h
    · obtain ⟨x, hx, hk⟩ := Option.bind_eq_some_iff.1 h
      refine ⟨_, ?_, hk⟩
      simp only [hx, Option.bind_some]
    · simp at h
def seg_transomref09_CheckCol_1 (g : S_transomref09_CheckCol_1) : Seg where
  path := [1, 1, 1]
  prep := []
  keep := [1]
  F := fun tvs blks {β} K => match tvs, blks with
    | [.v (.one (.ptr 0 0))], [some (.box [(.d .str x0), (.d (.int .i64) x1), (.d .bool x2), (.d (.int .i64) x3), (.d (.int .i64) x4), (.d (.int .u64) x5), (.d .str x6)])] => (g x0 x1 x2 x3 x4 x5 x6).bind fun r => K ⟨.v (.one (.d (.int .i64) r)), []⟩
    | _, _ => none
  legit := fun tvs blks K r h => by
    split at h
    · obtain ⟨x, hx, hk⟩ := Option.bind_eq_some_iff.1 h
      refine ⟨_, ?_, hk⟩
      simp only [hx, Option.bind_some]
    · simp at h
noncomputable def env_transomref09_CheckCol (g54 : G_transomref08_Check) (g58 : G_transomref04_Check) (s0 : S_transomref09_CheckCol_0) (s1 : S_transomref09_CheckCol_1) : FEnv := { P := Go.Proofs.Tryz.prog, ct := fun m => if m = 54 then some (ct_transomref08_Check g54) else if m = 58 then some (ct_transomref04_Check g58) else none, N := 37, body := Go.Proofs.Tryz.f55.body.getD .skip, rvs := [.tmp 2], rts := [3], nin := 0, rmv := [], segs := [seg_transomref09_CheckCol_0 s0, seg_transomref09_CheckCol_1 s1] }
def transomref09_CheckCol.c {β : Type} (g54 : G_transomref08_Check) (g58 : G_transomref04_Check) (s0 : S_transomref09_CheckCol_0) (s1 : S_transomref09_CheckCol_1) (a0 : ByteArray) (a1 : Int) (a2 : Bool) (a3 : Int) (a4 : Int) (a5 : Int) (a6 : ByteArray) (ret : Int → Option β) : Option β := ((g54 a0).bind fun r0 => (bif (r0 != (0 : Int)) then (ret (r0)) else (bif (decide (a1 < (1 : Int))) then ((s0 true a0 a1 a2 a3 a4 a5 a6).bind ret) else ((s0 (decide (a1 > (5 : Int))) a0 a1 a2 a3 a4 a5 a6).bind ret))))
def transomref09_CheckCol.s0c {β : Type} (g54 : G_transomref08_Check) (g58 : G_transomref04_Check) (s0 : S_transomref09_CheckCol_0) (s1 : S_transomref09_CheckCol_1) (x0 : Bool) (x1 : ByteArray) (x2 : Int) (x3 : Bool) (x4 : Int) (x5 : Int) (x6 : Int) (x7 : ByteArray) (ret : Int → Option β) : Option β := (bif x0 then (ret ((5 : Int))) else ((s1 x1 x2 x3 x4 x5 x6 x7).bind ret))
def transomref09_CheckCol.s1c {β : Type} (g54 : G_transomref08_Check) (g58 : G_transomref04_Check) (s0 : S_transomref09_CheckCol_0) (s1 : S_transomref09_CheckCol_1) (x0 : ByteArray) (x1 : Int) (x2 : Bool) (x3 : Int) (x4 : Int) (x5 : Int) (x6 : ByteArray) (ret : Int → Option β) : Option β := ((g58 x3 x4 x5 x6).bind fun r0 => (bif (r0 != (0 : Int)) then (ret (r0)) else (bif (x3 != (0 : Int)) then (bif (x3 != x1) then (ret ((11 : Int))) else (ret ((0 : Int)))) else (ret ((0 : Int))))))
theorem transomref09_CheckCol.c_bind {β : Type} {g54 : G_transomref08_Check} {g58 : G_transomref04_Check} {s0 : S_transomref09_CheckCol_0} {s1 : S_transomref09_CheckCol_1} {a0 : ByteArray} {a1 : Int} {a2 : Bool} {a3 : Int} {a4 : Int} {a5 : Int} {a6 : ByteArray} {ret : Int → Option β} : transomref09_CheckCol.c g54 g58 s0 s1 a0 a1 a2 a3 a4 a5 a6 ret = (transomref09_CheckCol.c g54 g58 s0 s1 a0 a1 a2 a3 a4 a5 a6 some).bind ret := by
  simp only [transomref09_CheckCol.c, bif_bind, sum_bind, Option.bind_assoc, Option.bind_some, Option.bind_none, Option.bind_fun_some]
theorem transomref09_CheckCol.s0c_bind {β : Type} {g54 : G_transomref08_Check} {g58 : G_transomref04_Check} {s0 : S_transomref09_CheckCol_0} {s1 : S_transomref09_CheckCol_1} {x0 : Bool} {x1 : ByteArray} {x2 : Int} {x3 : Bool} {x4 : Int} {x5 : Int} {x6 : Int} {x7 : ByteArray} {ret : Int → Option β} : transomref09_CheckCol.s0c g54 g58 s0 s1 x0 x1 x2 x3 x4 x5 x6 x7 ret = (transomref09_CheckCol.s0c g54 g58 s0 s1 x0 x1 x2 x3 x4 x5 x6 x7 some).bind ret := by
  simp only [transomref09_CheckCol.s0c, bif_bind, sum_bind, Option.bind_assoc, Option.bind_some, Option.bind_none, Option.bind_fun_some]
theorem transomref09_CheckCol.s1c_bind {β : Type} {g54 : G_transomref08_Check} {g58 : G_transomref04_Check} {s0 : S_transomref09_CheckCol_0} {s1 : S_transomref09_CheckCol_1} {x0 : ByteArray} {x1 : Int} {x2 : Bool} {x3 : Int} {x4 : Int} {x5 : Int} {x6 : ByteArray} {ret : Int → Option β} : transomref09_CheckCol.s1c g54 g58 s0 s1 x0 x1 x2 x3 x4 x5 x6 ret = (transomref09_CheckCol.s1c g54 g58 s0 s1 x0 x1 x2 x3 x4 x5 x6 some).bind ret := by
  simp only [transomref09_CheckCol.s1c, bif_bind, sum_bind, Option.bind_assoc, Option.bind_some, Option.bind_none, Option.bind_fun_some]
theorem transomref09_CheckCol.ev {g54 : G_transomref08_Check} {g58 : G_transomref04_Check} {s0 : S_transomref09_CheckCol_0} {s1 : S_transomref09_CheckCol_1} {a0 : ByteArray} {a1 : Int} {a2 : Bool} {a3 : Int} {a4 : Int} {a5 : Int} {a6 : ByteArray} : evAt (env_transomref09_CheckCol g54 g58 s0 s1) [] [0] [.v (.agg [(.d .str a0), (.d (.int .i64) a1), (.d .bool a2), (.d (.int .i64) a3), (.d (.int .i64) a4), (.d (.int .u64) a5), (.d .str a6)])] [] some = transomref09_CheckCol.c g54 g58 s0 s1 a0 a1 a2 a3 a4 a5 a6 (fun r => some ⟨.v (.one (.d (.int .i64) r)), []⟩) := by
  kernel_rfl
theorem transomref09_CheckCol.s0_ev {g54 : G_transomref08_Check} {g58 : G_transomref04_Check} {s0 : S_transomref09_CheckCol_0} {s1 : S_transomref09_CheckCol_1} {x0 : Bool} {x1 : ByteArray} {x2 : Int} {x3 : Bool} {x4 : Int} {x5 : Int} {x6 : Int} {x7 : ByteArray} : evAt (env_transomref09_CheckCol g54 g58 s0 s1) [1, 0, 1, 1] [1, 18] [.v (.one (.ptr 0 0)), .v (.one (.d .bool x0))] [some (.box [(.d .str x1), (.d (.int .i64) x2), (.d .bool x3), (.d (.int .i64) x4), (.d (.int .i64) x5), (.d (.int .u64) x6), (.d .str x7)])] some = transomref09_CheckCol.s0c g54 g58 s0 s1 x0 x1 x2 x3 x4 x5 x6 x7 (fun r => some ⟨.v (.one (.d (.int .i64) r)), []⟩) := by
  kernel_rfl
theorem transomref09_CheckCol.s1_ev {g54 : G_transomref08_Check} {g58 : G_transomref04_Check} {s0 : S_transomref09_CheckCol_0} {s1 : S_transomref09_CheckCol_1} {x0 : ByteArray} {x1 : Int} {x2 : Bool} {x3 : Int} {x4 : Int} {x5 : Int} {x6 : ByteArray} : evAt (env_transomref09_CheckCol g54 g58 s0 s1) [1, 1, 1] [1] [.v (.one (.ptr 0 0))] [some (.box [(.d .str x0), (.d (.int .i64) x1), (.d .bool x2), (.d (.int .i64) x3), (.d (.int .i64) x4), (.d (.int .u64) x5), (.d .str x6)])] some = transomref09_CheckCol.s1c g54 g58 s0 s1 x0 x1 x2 x3 x4 x5 x6 (fun r => some ⟨.v (.one (.d (.int .i64) r)), []⟩) := by
  kernel_rfl
mutual
def transomref09_CheckCol.s0 : Nat → Bool → ByteArray → Int → Bool → Int → Int → Int → ByteArray → Option Int
  | 0, _, _, _, _, _, _, _, _ => none
  | k + 1, x0, x1, x2, x3, x4, x5, x6, x7 => transomref09_CheckCol.s0c (transomref08_Check.f k) (transomref04_Check.f k) (transomref09_CheckCol.s0 k) (transomref09_CheckCol.s1 k) x0 x1 x2 x3 x4 x5 x6 x7 some
def transomref09_CheckCol.s1 : Nat → ByteArray → Int → Bool → Int → Int → Int → ByteArray → Option Int
  | 0, _, _, _, _, _, _, _ => none
  | k + 1, x0, x1, x2, x3, x4, x5, x6 => transomref09_CheckCol.s1c (transomref08_Check.f k) (transomref04_Check.f k) (transomref09_CheckCol.s0 k) (transomref09_CheckCol.s1 k) x0 x1 x2 x3 x4 x5 x6 some
end
def transomref09_CheckCol.f (k : Nat) (a0 : ByteArray) (a1 : Int) (a2 : Bool) (a3 : Int) (a4 : Int) (a5 : Int) (a6 : ByteArray) : Option Int := transomref09_CheckCol.c (transomref08_Check.f k) (transomref04_Check.f k) (transomref09_CheckCol.s0 k) (transomref09_CheckCol.s1 k) a0 a1 a2 a3 a4 a5 a6 some
theorem transomref09_CheckCol.is {g54 : G_transomref08_Check} {g58 : G_transomref04_Check} {s0 : S_transomref09_CheckCol_0} {s1 : S_transomref09_CheckCol_1} : FnIs (env_transomref09_CheckCol g54 g58 s0 s1) 55 Go.Proofs.Tryz.f55 := ⟨Go.Proofs.Tryz.func55, rfl, rfl, rfl, by decide⟩
theorem transomref09_CheckCol.envok {g54 : G_transomref08_Check} {g58 : G_transomref04_Check} {s0 : S_transomref09_CheckCol_0} {s1 : S_transomref09_CheckCol_1} (h54 : CtOK Go.Proofs.Tryz.prog 54 (ct_transomref08_Check g54)) (h58 : CtOK Go.Proofs.Tryz.prog 58 (ct_transomref04_Check g58)) : EnvOK (env_transomref09_CheckCol g54 g58 s0 s1).toEnv := by
  intro f c h
  simp only [env_transomref09_CheckCol] at h
  split at h
  · rename_i e; subst e; cases h; exact h54
  split at h
  · rename_i e; subst e; cases h; exact h58
  simp at h
noncomputable abbrev transomref09_CheckCol.E (k : Nat) : FEnv := env_transomref09_CheckCol (transomref08_Check.f k) (transomref04_Check.f k) (transomref09_CheckCol.s0 k) (transomref09_CheckCol.s1 k)
theorem transomref09_CheckCol.hE (k : Nat) : EnvOK (transomref09_CheckCol.E k).toEnv := transomref09_CheckCol.envok (transomref08_Check.ok k) (transomref04_Check.ok k)
theorem transomref09_CheckCol.segs_ok : ∀ k, ∀ s ∈ (transomref09_CheckCol.E k).segs, SegOK (transomref09_CheckCol.E k) Go.Proofs.Tryz.f55 s
  | 0 => by
    intro s hs
    simp only [transomref09_CheckCol.E, env_transomref09_CheckCol, List.mem_cons, List.not_mem_nil, or_false] at hs
    rcases hs with rfl | rfl
    · intro tvs blks res h; exfalso; simp only [seg_transomref09_CheckCol_0] at h; split at h <;> simp [transomref09_CheckCol.s0] at h
    · intro tvs blks res h; exfalso; simp only [seg_transomref09_CheckCol_1] at h; split at h <;> simp [transomref09_CheckCol.s1] at h
  | k + 1 => by
    intro s hs
    simp only [transomref09_CheckCol.E, env_transomref09_CheckCol, List.mem_cons, List.not_mem_nil, or_false] at hs
    rcases hs with rfl | rfl
    · refine seg_of_ev (E := transomref09_CheckCol.E k) (transomref09_CheckCol.hE k) ⟨transomref09_CheckCol.is.rvs⟩ (transomref09_CheckCol.segs_ok k) ?_
      intro tvs blks res h
      simp only [seg_transomref09_CheckCol_0] at h
      split at h
      · exact (transomref09_CheckCol.s0_ev.trans transomref09_CheckCol.s0c_bind).trans h
      · simp at h
    · refine seg_of_ev (E := transomref09_CheckCol.E k) (transomref09_CheckCol.hE k) ⟨transomref09_CheckCol.is.rvs⟩ (transomref09_CheckCol.segs_ok k) ?_
      intro tvs blks res h
      simp only [seg_transomref09_CheckCol_1] at h
      split at h
      · exact (transomref09_CheckCol.s1_ev.trans transomref09_CheckCol.s1c_bind).trans h
      · simp at h
theorem transomref09_CheckCol.ok (k : Nat) : CtOK Go.Proofs.Tryz.prog 55 (ct_transomref09_CheckCol (transomref09_CheckCol.f k)) := by
  refine ct_of_ev (E := transomref09_CheckCol.E k) transomref09_CheckCol.is (transomref09_CheckCol.hE k) (transomref09_CheckCol.segs_ok k) rfl ?_
  intro tvs blks res h
  simp only [ct_transomref09_CheckCol] at h
  split at h
  · exact (transomref09_CheckCol.ev.trans transomref09_CheckCol.c_bind).trans h
  · simp at h
end Go.Proofs.YtddlebbjaadbeaaGreatDoor.Aev
