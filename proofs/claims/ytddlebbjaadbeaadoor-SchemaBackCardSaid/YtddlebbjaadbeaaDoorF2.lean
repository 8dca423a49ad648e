/- By a program of this session (AEV): functions of the program as plain functions, and that the machine does what they say. -/
import Derived.Test.YtddlebbjaadbeaaDoorTys
import Derived.Test.YtddlebbjaadbeaaDoorProg
import Derived.Laws.Externs
import Derived.Lib.Bytealg
import Derived.Test.YtddlebbjaadbeaaDoorF0
import Derived.Test.YtddlebbjaadbeaaDoorF1
namespace Go.Proofs.YtddlebbjaadbeaaDoor.Aev
set_option linter.unusedVariables false
set_option linter.unusedSimpArgs false
set_option maxRecDepth 100000
set_option maxHeartbeats 4000000
open Go
/-! ### names_Check: function 49 -/
abbrev G_names_Check : Type := ByteArray → Option Int
def ct_names_Check (g : G_names_Check) : Ct where
  nin := 0
  mv := []
  F := fun tvs blks {β} K => match tvs, blks with
    | [.v (.one (.d .str a0))], [] => (g a0).bind fun r => K ⟨.v (.one (.d (.int .i64) r)), []⟩
    | _, _ => none
  legit := fun tvs blks K r h => by
    split at h
    · obtain ⟨x, hx, hk⟩ := Option.bind_eq_some_iff.1 h
      refine ⟨_, ?_, hk⟩
      simp only [hx, Option.bind_some]
    · simp at h
abbrev S_names_Check_0 : Type := ByteArray → Bool → Option Int
abbrev S_names_Check_1 : Type := ByteArray → Option Int
abbrev S_names_Check_2 : Type := (List Int) → Int → Int → Option Int
abbrev S_names_Check_3 : Type := Int → Int → Bool → (List Int) → Int → Int → Option Int
abbrev S_names_Check_4 : Type := Int → Bool → Bool → (List Int) → Int → Int → Option Int
abbrev S_names_Check_5 : Type := (List Int) → Int → Int → Bool → Option Int
abbrev S_names_Check_6 : Type := (List Int) → Int → Int → Option Int
def seg_names_Check_0 (g : S_names_Check_0) : Seg where
  path := [1, 0, 1]
  prep := []
  keep := [0, 13]
  F := fun tvs blks {β} K => match tvs, blks with
    | [.v (.one (.d .str x0)), .v (.one (.d .bool x1))], [] => (g x0 x1).bind fun r => K ⟨.v (.one (.d (.int .i64) r)), []⟩
    | _, _ => none
  legit := fun tvs blks K r h => by
    split at h
    · obtain ⟨x, hx, hk⟩ := Option.bind_eq_some_iff.1 h
      refine ⟨_, ?_, hk⟩
      simp only [hx, Option.bind_some]
    · simp at h
def seg_names_Check_1 (g : S_names_Check_1) : Seg where
  path := [1, 1]
  prep := []
  keep := [0]
  F := fun tvs blks {β} K => match tvs, blks with
    | [.v (.one (.d .str x0))], [] => (g x0).bind fun r => K ⟨.v (.one (.d (.int .i64) r)), []⟩
    | _, _ => none
  legit := fun tvs blks K r h => by
    split at h
    · obtain ⟨x, hx, hk⟩ := Option.bind_eq_some_iff.1 h
      refine ⟨_, ?_, hk⟩
      simp only [hx, Option.bind_some]
    · simp at h
def seg_names_Check_2 (g : S_names_Check_2) : Seg where
  path := [4, 1, 0, 1, 1]
  prep := []
  keep := [15, 16, 17]
  F := fun tvs blks {β} K => match tvs, blks with
    | [.v (.one (.d (.sl (.int .u8)) x0)), .v (.one (.d (.int .i64) x1)), .v (.one (.d (.int .i64) x2))], [] => (g x0 x1 x2).bind fun r => K ⟨.v (.one (.d (.int .i64) r)), []⟩
    | _, _ => none
  legit := fun tvs blks K r h => by
    split at h
    · obtain ⟨x, hx, hk⟩ := Option.bind_eq_some_iff.1 h
      refine ⟨_, ?_, hk⟩
      simp only [hx, Option.bind_some]
    · simp at h
def seg_names_Check_3 (g : S_names_Check_3) : Seg where
  path := [1, 1, 4, 0, 1, 1, 5, 4, 1, 0, 1, 1]
  prep := []
  keep := [3, 4, 5, 15, 16, 17]
  F := fun tvs blks {β} K => match tvs, blks with
    | [.v (.one (.d (.int .i64) x0)), .v (.one (.d (.int .u8) x1)), .v (.one (.d .bool x2)), .v (.one (.d (.sl (.int .u8)) x3)), .v (.one (.d (.int .i64) x4)), .v (.one (.d (.int .i64) x5))], [] => (g x0 x1 x2 x3 x4 x5).bind fun r => K ⟨.v (.one (.d (.int .i64) r)), []⟩
    | _, _ => none
  legit := fun tvs blks K r h => by
    split at h
    · obtain ⟨x, hx, hk⟩ := Option.bind_eq_some_iff.1 h
      refine ⟨_, ?_, hk⟩
      simp only [hx, Option.bind_some]
    · simp at h
def seg_names_Check_4 (g : S_names_Check_4) : Seg where
  path := [1, 1, 1, 4, 0, 1, 1, 5, 4, 1, 0, 1, 1]
  prep := []
  keep := [3, 5, 6, 15, 16, 17]
  F := fun tvs blks {β} K => match tvs, blks with
    | [.v (.one (.d (.int .i64) x0)), .v (.one (.d .bool x1)), .v (.one (.d .bool x2)), .v (.one (.d (.sl (.int .u8)) x3)), .v (.one (.d (.int .i64) x4)), .v (.one (.d (.int .i64) x5))], [] => (g x0 x1 x2 x3 x4 x5).bind fun r => K ⟨.v (.one (.d (.int .i64) r)), []⟩
    | _, _ => none
  legit := fun tvs blks K r h => by
    split at h
    · obtain ⟨x, hx, hk⟩ := Option.bind_eq_some_iff.1 h
      refine ⟨_, ?_, hk⟩
      simp only [hx, Option.bind_some]
    · simp at h
def seg_names_Check_5 (g : S_names_Check_5) : Seg where
  path := [1, 1, 1, 1, 4, 0, 1, 1, 5, 4, 1, 0, 1, 1]
  prep := []
  keep := [15, 16, 17, 47]
  F := fun tvs blks {β} K => match tvs, blks with
    | [.v (.one (.d (.sl (.int .u8)) x0)), .v (.one (.d (.int .i64) x1)), .v (.one (.d (.int .i64) x2)), .v (.one (.d .bool x3))], [] => (g x0 x1 x2 x3).bind fun r => K ⟨.v (.one (.d (.int .i64) r)), []⟩
    | _, _ => none
  legit := fun tvs blks K r h => by
    split at h
    · obtain ⟨x, hx, hk⟩ := Option.bind_eq_some_iff.1 h
      refine ⟨_, ?_, hk⟩
      simp only [hx, Option.bind_some]
    · simp at h
def seg_names_Check_6 (g : S_names_Check_6) : Seg where
  path := [1, 1, 1, 5, 4, 1, 0, 1, 1]
  prep := []
  keep := [15, 16, 17]
  F := fun tvs blks {β} K => match tvs, blks with
    | [.v (.one (.d (.sl (.int .u8)) x0)), .v (.one (.d (.int .i64) x1)), .v (.one (.d (.int .i64) x2))], [] => (g x0 x1 x2).bind fun r => K ⟨.v (.one (.d (.int .i64) r)), []⟩
    | _, _ => none
  legit := fun tvs blks K r h => by
    split at h
    · obtain ⟨x, hx, hk⟩ := Option.bind_eq_some_iff.1 h
      refine ⟨_, ?_, hk⟩
      simp only [hx, Option.bind_some]
    · simp at h
noncomputable def env_names_Check  (s0 : S_names_Check_0) (s1 : S_names_Check_1) (s2 : S_names_Check_2) (s3 : S_names_Check_3) (s4 : S_names_Check_4) (s5 : S_names_Check_5) (s6 : S_names_Check_6) : FEnv := { P := Go.Proofs.Tryd.prog, ct := fun m => none, N := 49, body := Go.Proofs.Tryd.f49.body.getD .skip, rvs := [.tmp 2], rts := [27], nin := 0, rmv := [], segs := [seg_names_Check_0 s0, seg_names_Check_1 s1, seg_names_Check_2 s2, seg_names_Check_3 s3, seg_names_Check_4 s4, seg_names_Check_5 s5, seg_names_Check_6 s6] }
def names_Check.c {β : Type}  (s0 : S_names_Check_0) (s1 : S_names_Check_1) (s2 : S_names_Check_2) (s3 : S_names_Check_3) (s4 : S_names_Check_4) (s5 : S_names_Check_5) (s6 : S_names_Check_6) (a0 : ByteArray) (ret : Int → Option β) : Option β := (bif ((ByteArray.toList a0) == (ByteArray.toList (ByteArray.mk (List.toArray [])))) then ((s0 a0 true).bind ret) else ((s0 a0 (decide (((ByteArray.size a0) : Int) > (16 : Int)))).bind ret))
def names_Check.s0c {β : Type}  (s0 : S_names_Check_0) (s1 : S_names_Check_1) (s2 : S_names_Check_2) (s3 : S_names_Check_3) (s4 : S_names_Check_4) (s5 : S_names_Check_5) (s6 : S_names_Check_6) (x0 : ByteArray) (x1 : Bool) (ret : Int → Option β) : Option β := (bif x1 then (ret ((8 : Int))) else ((s1 x0).bind ret))
def names_Check.s1c {β : Type}  (s0 : S_names_Check_0) (s1 : S_names_Check_1) (s2 : S_names_Check_2) (s3 : S_names_Check_3) (s4 : S_names_Check_4) (s5 : S_names_Check_5) (s6 : S_names_Check_6) (x0 : ByteArray) (ret : Int → Option β) : Option β := ((s2 (List.map (fun b => ((UInt8.toNat b) : Int)) (Array.toList (ByteArray.data x0))) ((List.length (List.map (fun b => ((UInt8.toNat b) : Int)) (Array.toList (ByteArray.data x0)))) : Int) (0 : Int)).bind ret)
def names_Check.s2c {β : Type}  (s0 : S_names_Check_0) (s1 : S_names_Check_1) (s2 : S_names_Check_2) (s3 : S_names_Check_3) (s4 : S_names_Check_4) (s5 : S_names_Check_5) (s6 : S_names_Check_6) (x0 : List Int) (x1 : Int) (x2 : Int) (ret : Int → Option β) : Option β := (bif (decide (x2 < x1)) then (bif ((decide ((0 : Int) ≤ x2)) && (decide (x2 < ((List.length x0) : Int)))) then (bif (decide ((elem (Ty.int IntKind.u8) x0 x2) ≥ (97 : Int))) then ((s3 x2 (elem (Ty.int IntKind.u8) x0 x2) (decide ((elem (Ty.int IntKind.u8) x0 x2) ≤ (122 : Int))) x0 x1 x2).bind ret) else ((s3 x2 (elem (Ty.int IntKind.u8) x0 x2) false x0 x1 x2).bind ret)) else none) else (ret ((0 : Int))))
def names_Check.s3c {β : Type}  (s0 : S_names_Check_0) (s1 : S_names_Check_1) (s2 : S_names_Check_2) (s3 : S_names_Check_3) (s4 : S_names_Check_4) (s5 : S_names_Check_5) (s6 : S_names_Check_6) (x0 : Int) (x1 : Int) (x2 : Bool) (x3 : List Int) (x4 : Int) (x5 : Int) (ret : Int → Option β) : Option β := (bif (decide (x1 ≥ (48 : Int))) then (bif (decide (x1 ≤ (57 : Int))) then ((s4 x0 x2 true x3 x4 x5).bind ret) else ((s4 x0 x2 (x1 == (95 : Int)) x3 x4 x5).bind ret)) else ((s4 x0 x2 (x1 == (95 : Int)) x3 x4 x5).bind ret))
def names_Check.s4c {β : Type}  (s0 : S_names_Check_0) (s1 : S_names_Check_1) (s2 : S_names_Check_2) (s3 : S_names_Check_3) (s4 : S_names_Check_4) (s5 : S_names_Check_5) (s6 : S_names_Check_6) (x0 : Int) (x1 : Bool) (x2 : Bool) (x3 : List Int) (x4 : Int) (x5 : Int) (ret : Int → Option β) : Option β := (bif (!x1) then (bif (x0 == (0 : Int)) then ((s5 x3 x4 x5 true).bind ret) else ((s5 x3 x4 x5 (!x2)).bind ret)) else ((s5 x3 x4 x5 false).bind ret))
def names_Check.s5c {β : Type}  (s0 : S_names_Check_0) (s1 : S_names_Check_1) (s2 : S_names_Check_2) (s3 : S_names_Check_3) (s4 : S_names_Check_4) (s5 : S_names_Check_5) (s6 : S_names_Check_6) (x0 : List Int) (x1 : Int) (x2 : Int) (x3 : Bool) (ret : Int → Option β) : Option β := (bif x3 then (ret ((8 : Int))) else ((s6 x0 x1 x2).bind ret))
def names_Check.s6c {β : Type}  (s0 : S_names_Check_0) (s1 : S_names_Check_1) (s2 : S_names_Check_2) (s3 : S_names_Check_3) (s4 : S_names_Check_4) (s5 : S_names_Check_5) (s6 : S_names_Check_6) (x0 : List Int) (x1 : Int) (x2 : Int) (ret : Int → Option β) : Option β := ((s2 x0 x1 (IntKind.wrap IntKind.i64 (x2 + (1 : Int)))).bind ret)
theorem names_Check.c_bind {β : Type}  {s0 : S_names_Check_0} {s1 : S_names_Check_1} {s2 : S_names_Check_2} {s3 : S_names_Check_3} {s4 : S_names_Check_4} {s5 : S_names_Check_5} {s6 : S_names_Check_6} {a0 : ByteArray} {ret : Int → Option β} : names_Check.c  s0 s1 s2 s3 s4 s5 s6 a0 ret = (names_Check.c  s0 s1 s2 s3 s4 s5 s6 a0 some).bind ret := by
  simp only [names_Check.c, bif_bind, sum_bind, Option.bind_assoc, Option.bind_some, Option.bind_none, Option.bind_fun_some]
theorem names_Check.s0c_bind {β : Type}  {s0 : S_names_Check_0} {s1 : S_names_Check_1} {s2 : S_names_Check_2} {s3 : S_names_Check_3} {s4 : S_names_Check_4} {s5 : S_names_Check_5} {s6 : S_names_Check_6} {x0 : ByteArray} {x1 : Bool} {ret : Int → Option β} : names_Check.s0c  s0 s1 s2 s3 s4 s5 s6 x0 x1 ret = (names_Check.s0c  s0 s1 s2 s3 s4 s5 s6 x0 x1 some).bind ret := by
  simp only [names_Check.s0c, bif_bind, sum_bind, Option.bind_assoc, Option.bind_some, Option.bind_none, Option.bind_fun_some]
theorem names_Check.s1c_bind {β : Type}  {s0 : S_names_Check_0} {s1 : S_names_Check_1} {s2 : S_names_Check_2} {s3 : S_names_Check_3} {s4 : S_names_Check_4} {s5 : S_names_Check_5} {s6 : S_names_Check_6} {x0 : ByteArray} {ret : Int → Option β} : names_Check.s1c  s0 s1 s2 s3 s4 s5 s6 x0 ret = (names_Check.s1c  s0 s1 s2 s3 s4 s5 s6 x0 some).bind ret := by
  simp only [names_Check.s1c, bif_bind, sum_bind, Option.bind_assoc, Option.bind_some, Option.bind_none, Option.bind_fun_some]
theorem names_Check.s2c_bind {β : Type}  {s0 : S_names_Check_0} {s1 : S_names_Check_1} {s2 : S_names_Check_2} {s3 : S_names_Check_3} {s4 : S_names_Check_4} {s5 : S_names_Check_5} {s6 : S_names_Check_6} {x0 : List Int} {x1 : Int} {x2 : Int} {ret : Int → Option β} : names_Check.s2c  s0 s1 s2 s3 s4 s5 s6 x0 x1 x2 ret = (names_Check.s2c  s0 s1 s2 s3 s4 s5 s6 x0 x1 x2 some).bind ret := by
  simp only [names_Check.s2c, bif_bind, sum_bind, Option.bind_assoc, Option.bind_some, Option.bind_none, Option.bind_fun_some]
theorem names_Check.s3c_bind {β : Type}  {s0 : S_names_Check_0} {s1 : S_names_Check_1} {s2 : S_names_Check_2} {s3 : S_names_Check_3} {s4 : S_names_Check_4} {s5 : S_names_Check_5} {s6 : S_names_Check_6} {x0 : Int} {x1 : Int} {x2 : Bool} {x3 : List Int} {x4 : Int} {x5 : Int} {ret : Int → Option β} : names_Check.s3c  s0 s1 s2 s3 s4 s5 s6 x0 x1 x2 x3 x4 x5 ret = (names_Check.s3c  s0 s1 s2 s3 s4 s5 s6 x0 x1 x2 x3 x4 x5 some).bind ret := by
  simp only [names_Check.s3c, bif_bind, sum_bind, Option.bind_assoc, Option.bind_some, Option.bind_none, Option.bind_fun_some]
theorem names_Check.s4c_bind {β : Type}  {s0 : S_names_Check_0} {s1 : S_names_Check_1} {s2 : S_names_Check_2} {s3 : S_names_Check_3} {s4 : S_names_Check_4} {s5 : S_names_Check_5} {s6 : S_names_Check_6} {x0 : Int} {x1 : Bool} {x2 : Bool} {x3 : List Int} {x4 : Int} {x5 : Int} {ret : Int → Option β} : names_Check.s4c  s0 s1 s2 s3 s4 s5 s6 x0 x1 x2 x3 x4 x5 ret = (names_Check.s4c  s0 s1 s2 s3 s4 s5 s6 x0 x1 x2 x3 x4 x5 some).bind ret := by
  simp only [names_Check.s4c, bif_bind, sum_bind, Option.bind_assoc, Option.bind_some, Option.bind_none, Option.bind_fun_some]
theorem names_Check.s5c_bind {β : Type}  {s0 : S_names_Check_0} {s1 : S_names_Check_1} {s2 : S_names_Check_2} {s3 : S_names_Check_3} {s4 : S_names_Check_4} {s5 : S_names_Check_5} {s6 : S_names_Check_6} {x0 : List Int} {x1 : Int} {x2 : Int} {x3 : Bool} {ret : Int → Option β} : names_Check.s5c  s0 s1 s2 s3 s4 s5 s6 x0 x1 x2 x3 ret = (names_Check.s5c  s0 s1 s2 s3 s4 s5 s6 x0 x1 x2 x3 some).bind ret := by
  simp only [names_Check.s5c, bif_bind, sum_bind, Option.bind_assoc, Option.bind_some, Option.bind_none, Option.bind_fun_some]
theorem names_Check.s6c_bind {β : Type}  {s0 : S_names_Check_0} {s1 : S_names_Check_1} {s2 : S_names_Check_2} {s3 : S_names_Check_3} {s4 : S_names_Check_4} {s5 : S_names_Check_5} {s6 : S_names_Check_6} {x0 : List Int} {x1 : Int} {x2 : Int} {ret : Int → Option β} : names_Check.s6c  s0 s1 s2 s3 s4 s5 s6 x0 x1 x2 ret = (names_Check.s6c  s0 s1 s2 s3 s4 s5 s6 x0 x1 x2 some).bind ret := by
  simp only [names_Check.s6c, bif_bind, sum_bind, Option.bind_assoc, Option.bind_some, Option.bind_none, Option.bind_fun_some]
theorem names_Check.ev  {s0 : S_names_Check_0} {s1 : S_names_Check_1} {s2 : S_names_Check_2} {s3 : S_names_Check_3} {s4 : S_names_Check_4} {s5 : S_names_Check_5} {s6 : S_names_Check_6} {a0 : ByteArray} : evAt (env_names_Check  s0 s1 s2 s3 s4 s5 s6) [] [0] [.v (.one (.d .str a0))] [] some = names_Check.c  s0 s1 s2 s3 s4 s5 s6 a0 (fun r => some ⟨.v (.one (.d (.int .i64) r)), []⟩) := by
  kernel_rfl
theorem names_Check.s0_ev  {s0 : S_names_Check_0} {s1 : S_names_Check_1} {s2 : S_names_Check_2} {s3 : S_names_Check_3} {s4 : S_names_Check_4} {s5 : S_names_Check_5} {s6 : S_names_Check_6} {x0 : ByteArray} {x1 : Bool} : evAt (env_names_Check  s0 s1 s2 s3 s4 s5 s6) [1, 0, 1] [0, 13] [.v (.one (.d .str x0)), .v (.one (.d .bool x1))] [] some = names_Check.s0c  s0 s1 s2 s3 s4 s5 s6 x0 x1 (fun r => some ⟨.v (.one (.d (.int .i64) r)), []⟩) := by
  kernel_rfl
theorem names_Check.s1_ev  {s0 : S_names_Check_0} {s1 : S_names_Check_1} {s2 : S_names_Check_2} {s3 : S_names_Check_3} {s4 : S_names_Check_4} {s5 : S_names_Check_5} {s6 : S_names_Check_6} {x0 : ByteArray} : evAt (env_names_Check  s0 s1 s2 s3 s4 s5 s6) [1, 1] [0] [.v (.one (.d .str x0))] [] some = names_Check.s1c  s0 s1 s2 s3 s4 s5 s6 x0 (fun r => some ⟨.v (.one (.d (.int .i64) r)), []⟩) := by
  kernel_rfl
theorem names_Check.s2_ev  {s0 : S_names_Check_0} {s1 : S_names_Check_1} {s2 : S_names_Check_2} {s3 : S_names_Check_3} {s4 : S_names_Check_4} {s5 : S_names_Check_5} {s6 : S_names_Check_6} {x0 : List Int} {x1 : Int} {x2 : Int} : evAt (env_names_Check  s0 s1 s2 s3 s4 s5 s6) [4, 1, 0, 1, 1] [15, 16, 17] [.v (.one (.d (.sl (.int .u8)) x0)), .v (.one (.d (.int .i64) x1)), .v (.one (.d (.int .i64) x2))] [] some = names_Check.s2c  s0 s1 s2 s3 s4 s5 s6 x0 x1 x2 (fun r => some ⟨.v (.one (.d (.int .i64) r)), []⟩) := by
  kernel_rfl
theorem names_Check.s3_ev  {s0 : S_names_Check_0} {s1 : S_names_Check_1} {s2 : S_names_Check_2} {s3 : S_names_Check_3} {s4 : S_names_Check_4} {s5 : S_names_Check_5} {s6 : S_names_Check_6} {x0 : Int} {x1 : Int} {x2 : Bool} {x3 : List Int} {x4 : Int} {x5 : Int} : evAt (env_names_Check  s0 s1 s2 s3 s4 s5 s6) [1, 1, 4, 0, 1, 1, 5, 4, 1, 0, 1, 1] [3, 4, 5, 15, 16, 17] [.v (.one (.d (.int .i64) x0)), .v (.one (.d (.int .u8) x1)), .v (.one (.d .bool x2)), .v (.one (.d (.sl (.int .u8)) x3)), .v (.one (.d (.int .i64) x4)), .v (.one (.d (.int .i64) x5))] [] some = names_Check.s3c  s0 s1 s2 s3 s4 s5 s6 x0 x1 x2 x3 x4 x5 (fun r => some ⟨.v (.one (.d (.int .i64) r)), []⟩) := by
  kernel_rfl
theorem names_Check.s4_ev  {s0 : S_names_Check_0} {s1 : S_names_Check_1} {s2 : S_names_Check_2} {s3 : S_names_Check_3} {s4 : S_names_Check_4} {s5 : S_names_Check_5} {s6 : S_names_Check_6} {x0 : Int} {x1 : Bool} {x2 : Bool} {x3 : List Int} {x4 : Int} {x5 : Int} : evAt (env_names_Check  s0 s1 s2 s3 s4 s5 s6) [1, 1, 1, 4, 0, 1, 1, 5, 4, 1, 0, 1, 1] [3, 5, 6, 15, 16, 17] [.v (.one (.d (.int .i64) x0)), .v (.one (.d .bool x1)), .v (.one (.d .bool x2)), .v (.one (.d (.sl (.int .u8)) x3)), .v (.one (.d (.int .i64) x4)), .v (.one (.d (.int .i64) x5))] [] some = names_Check.s4c  s0 s1 s2 s3 s4 s5 s6 x0 x1 x2 x3 x4 x5 (fun r => some ⟨.v (.one (.d (.int .i64) r)), []⟩) := by
  kernel_rfl
theorem names_Check.s5_ev  {s0 : S_names_Check_0} {s1 : S_names_Check_1} {s2 : S_names_Check_2} {s3 : S_names_Check_3} {s4 : S_names_Check_4} {s5 : S_names_Check_5} {s6 : S_names_Check_6} {x0 : List Int} {x1 : Int} {x2 : Int} {x3 : Bool} : evAt (env_names_Check  s0 s1 s2 s3 s4 s5 s6) [1, 1, 1, 1, 4, 0, 1, 1, 5, 4, 1, 0, 1, 1] [15, 16, 17, 47] [.v (.one (.d (.sl (.int .u8)) x0)), .v (.one (.d (.int .i64) x1)), .v (.one (.d (.int .i64) x2)), .v (.one (.d .bool x3))] [] some = names_Check.s5c  s0 s1 s2 s3 s4 s5 s6 x0 x1 x2 x3 (fun r => some ⟨.v (.one (.d (.int .i64) r)), []⟩) := by
  kernel_rfl
theorem names_Check.s6_ev  {s0 : S_names_Check_0} {s1 : S_names_Check_1} {s2 : S_names_Check_2} {s3 : S_names_Check_3} {s4 : S_names_Check_4} {s5 : S_names_Check_5} {s6 : S_names_Check_6} {x0 : List Int} {x1 : Int} {x2 : Int} : evAt (env_names_Check  s0 s1 s2 s3 s4 s5 s6) [1, 1, 1, 5, 4, 1, 0, 1, 1] [15, 16, 17] [.v (.one (.d (.sl (.int .u8)) x0)), .v (.one (.d (.int .i64) x1)), .v (.one (.d (.int .i64) x2))] [] some = names_Check.s6c  s0 s1 s2 s3 s4 s5 s6 x0 x1 x2 (fun r => some ⟨.v (.one (.d (.int .i64) r)), []⟩) := by
  kernel_rfl
mutual
def names_Check.s0 : Nat → ByteArray → Bool → Option Int
  | 0, _, _ => none
  | k + 1, x0, x1 => names_Check.s0c  (names_Check.s0 k) (names_Check.s1 k) (names_Check.s2 k) (names_Check.s3 k) (names_Check.s4 k) (names_Check.s5 k) (names_Check.s6 k) x0 x1 some
def names_Check.s1 : Nat → ByteArray → Option Int
  | 0, _ => none
  | k + 1, x0 => names_Check.s1c  (names_Check.s0 k) (names_Check.s1 k) (names_Check.s2 k) (names_Check.s3 k) (names_Check.s4 k) (names_Check.s5 k) (names_Check.s6 k) x0 some
def names_Check.s2 : Nat → (List Int) → Int → Int → Option Int
  | 0, _, _, _ => none
  | k + 1, x0, x1, x2 => names_Check.s2c  (names_Check.s0 k) (names_Check.s1 k) (names_Check.s2 k) (names_Check.s3 k) (names_Check.s4 k) (names_Check.s5 k) (names_Check.s6 k) x0 x1 x2 some
def names_Check.s3 : Nat → Int → Int → Bool → (List Int) → Int → Int → Option Int
  | 0, _, _, _, _, _, _ => none
  | k + 1, x0, x1, x2, x3, x4, x5 => names_Check.s3c  (names_Check.s0 k) (names_Check.s1 k) (names_Check.s2 k) (names_Check.s3 k) (names_Check.s4 k) (names_Check.s5 k) (names_Check.s6 k) x0 x1 x2 x3 x4 x5 some
def names_Check.s4 : Nat → Int → Bool → Bool → (List Int) → Int → Int → Option Int
  | 0, _, _, _, _, _, _ => none
  | k + 1, x0, x1, x2, x3, x4, x5 => names_Check.s4c  (names_Check.s0 k) (names_Check.s1 k) (names_Check.s2 k) (names_Check.s3 k) (names_Check.s4 k) (names_Check.s5 k) (names_Check.s6 k) x0 x1 x2 x3 x4 x5 some
def names_Check.s5 : Nat → (List Int) → Int → Int → Bool → Option Int
  | 0, _, _, _, _ => none
  | k + 1, x0, x1, x2, x3 => names_Check.s5c  (names_Check.s0 k) (names_Check.s1 k) (names_Check.s2 k) (names_Check.s3 k) (names_Check.s4 k) (names_Check.s5 k) (names_Check.s6 k) x0 x1 x2 x3 some
def names_Check.s6 : Nat → (List Int) → Int → Int → Option Int
  | 0, _, _, _ => none
  | k + 1, x0, x1, x2 => names_Check.s6c  (names_Check.s0 k) (names_Check.s1 k) (names_Check.s2 k) (names_Check.s3 k) (names_Check.s4 k) (names_Check.s5 k) (names_Check.s6 k) x0 x1 x2 some
end
def names_Check.f (k : Nat) (a0 : ByteArray) : Option Int := names_Check.c  (names_Check.s0 k) (names_Check.s1 k) (names_Check.s2 k) (names_Check.s3 k) (names_Check.s4 k) (names_Check.s5 k) (names_Check.s6 k) a0 some
theorem names_Check.is  {s0 : S_names_Check_0} {s1 : S_names_Check_1} {s2 : S_names_Check_2} {s3 : S_names_Check_3} {s4 : S_names_Check_4} {s5 : S_names_Check_5} {s6 : S_names_Check_6} : FnIs (env_names_Check  s0 s1 s2 s3 s4 s5 s6) 49 Go.Proofs.Tryd.f49 := ⟨Go.Proofs.Tryd.func49, rfl, rfl, rfl, by decide⟩
theorem names_Check.envok  {s0 : S_names_Check_0} {s1 : S_names_Check_1} {s2 : S_names_Check_2} {s3 : S_names_Check_3} {s4 : S_names_Check_4} {s5 : S_names_Check_5} {s6 : S_names_Check_6}  : EnvOK (env_names_Check  s0 s1 s2 s3 s4 s5 s6).toEnv := by
  intro f c h
  simp only [env_names_Check] at h
  simp at h
noncomputable abbrev names_Check.E (k : Nat) : FEnv := env_names_Check  (names_Check.s0 k) (names_Check.s1 k) (names_Check.s2 k) (names_Check.s3 k) (names_Check.s4 k) (names_Check.s5 k) (names_Check.s6 k)
theorem names_Check.hE (k : Nat) : EnvOK (names_Check.E k).toEnv := names_Check.envok 
theorem names_Check.segs_ok : ∀ k, ∀ s ∈ (names_Check.E k).segs, SegOK (names_Check.E k) Go.Proofs.Tryd.f49 s
  | 0 => by
    intro s hs
    simp only [names_Check.E, env_names_Check, List.mem_cons, List.not_mem_nil, or_false] at hs
    rcases hs with rfl | rfl | rfl | rfl | rfl | rfl | rfl
    · intro tvs blks res h; exfalso; simp only [seg_names_Check_0] at h; split at h <;> simp [names_Check.s0] at h
    · intro tvs blks res h; exfalso; simp only [seg_names_Check_1] at h; split at h <;> simp [names_Check.s1] at h
    · intro tvs blks res h; exfalso; simp only [seg_names_Check_2] at h; split at h <;> simp [names_Check.s2] at h
    · intro tvs blks res h; exfalso; simp only [seg_names_Check_3] at h; split at h <;> simp [names_Check.s3] at h
    · intro tvs blks res h; exfalso; simp only [seg_names_Check_4] at h; split at h <;> simp [names_Check.s4] at h
    · intro tvs blks res h; exfalso; simp only [seg_names_Check_5] at h; split at h <;> simp [names_Check.s5] at h
    · intro tvs blks res h; exfalso; simp only [seg_names_Check_6] at h; split at h <;> simp [names_Check.s6] at h
  | k + 1 => by
    intro s hs
    simp only [names_Check.E, env_names_Check, List.mem_cons, List.not_mem_nil, or_false] at hs
    rcases hs with rfl | rfl | rfl | rfl | rfl | rfl | rfl
    · refine seg_of_ev (E := names_Check.E k) (names_Check.hE k) ⟨names_Check.is.rvs⟩ (names_Check.segs_ok k) ?_
      intro tvs blks res h
      simp only [seg_names_Check_0] at h
      split at h
      · exact (names_Check.s0_ev.trans names_Check.s0c_bind).trans h
      · simp at h
    · refine seg_of_ev (E := names_Check.E k) (names_Check.hE k) ⟨names_Check.is.rvs⟩ (names_Check.segs_ok k) ?_
      intro tvs blks res h
      simp only [seg_names_Check_1] at h
      split at h
      · exact (names_Check.s1_ev.trans names_Check.s1c_bind).trans h
      · simp at h
    · refine seg_of_ev (E := names_Check.E k) (names_Check.hE k) ⟨names_Check.is.rvs⟩ (names_Check.segs_ok k) ?_
      intro tvs blks res h
      simp only [seg_names_Check_2] at h
      split at h
      · exact (names_Check.s2_ev.trans names_Check.s2c_bind).trans h
      · simp at h
    · refine seg_of_ev (E := names_Check.E k) (names_Check.hE k) ⟨names_Check.is.rvs⟩ (names_Check.segs_ok k) ?_
      intro tvs blks res h
      simp only [seg_names_Check_3] at h
      split at h
      · exact (names_Check.s3_ev.trans names_Check.s3c_bind).trans h
      · simp at h
    · refine seg_of_ev (E := names_Check.E k) (names_Check.hE k) ⟨names_Check.is.rvs⟩ (names_Check.segs_ok k) ?_
      intro tvs blks res h
      simp only [seg_names_Check_4] at h
      split at h
      · exact (names_Check.s4_ev.trans names_Check.s4c_bind).trans h
      · simp at h
    · refine seg_of_ev (E := names_Check.E k) (names_Check.hE k) ⟨names_Check.is.rvs⟩ (names_Check.segs_ok k) ?_
      intro tvs blks res h
      simp only [seg_names_Check_5] at h
      split at h
      · exact (names_Check.s5_ev.trans names_Check.s5c_bind).trans h
      · simp at h
    · refine seg_of_ev (E := names_Check.E k) (names_Check.hE k) ⟨names_Check.is.rvs⟩ (names_Check.segs_ok k) ?_
      intro tvs blks res h
      simp only [seg_names_Check_6] at h
      split at h
      · exact (names_Check.s6_ev.trans names_Check.s6c_bind).trans h
      · simp at h
theorem names_Check.ok (k : Nat) : CtOK Go.Proofs.Tryd.prog 49 (ct_names_Check (names_Check.f k)) := by
  refine ct_of_ev (E := names_Check.E k) names_Check.is (names_Check.hE k) (names_Check.segs_ok k) rfl ?_
  intro tvs blks res h
  simp only [ct_names_Check] at h
  split at h
  · exact (names_Check.ev.trans names_Check.c_bind).trans h
  · simp at h

/-! ### schema_col: function 26 -/
abbrev G_schema_col : Type := ByteArray → Int → Bool → Int → Int → Int → ByteArray → Option (((Int × Unit)) ⊕ Unit)
def ct_schema_col (g : G_schema_col) : Ct where
  nin := 0
  mv := []
  F := fun tvs blks {β} K => match tvs, blks with
    | [.v (.agg [(.d .str a0), (.d (.int .i64) a1), (.d .bool a2), (.d (.int .i64) a3), (.d (.int .i64) a4), (.d (.int .u64) a5), (.d .str a6)])], [] => (g a0 a1 a2 a3 a4 a5 a6).bind fun r => Sum.elim (fun r => K ⟨.v (.one (.ifc 78 true (.pair (.int .i64) .unit) r)), []⟩) (fun r => K ⟨.v (.one (.raw (.nilIface))), []⟩) r
    | _, _ => none
  legit := fun tvs blks K r h => by
    split at h
    · obtain ⟨x, hx, hk⟩ := Option.bind_eq_some_iff.1 h
      rcases x with x | x <;> (simp only [Sum.elim_inl, Sum.elim_inr] at hk; exact ⟨_, by simp only [hx, Option.bind_some, Sum.elim_inl, Sum.elim_inr], hk⟩)
    · simp at h
abbrev S_schema_col_0 : Type := Bool → ByteArray → Int → Bool → Int → Int → Int → ByteArray → Option (((Int × Unit)) ⊕ Unit)
abbrev S_schema_col_1 : Type := ByteArray → Int → Bool → Int → Int → Int → ByteArray → Option (((Int × Unit)) ⊕ Unit)
def seg_schema_col_0 (g : S_schema_col_0) : Seg where
  path := [1, 0, 1, 1]
  prep := []
  keep := [1, 21]
  F := fun tvs blks {β} K => match tvs, blks with
    | [.v (.one (.ptr 0 0)), .v (.one (.d .bool x0))], [some (.box [(.d .str x1), (.d (.int .i64) x2), (.d .bool x3), (.d (.int .i64) x4), (.d (.int .i64) x5), (.d (.int .u64) x6), (.d .str x7)])] => (g x0 x1 x2 x3 x4 x5 x6 x7).bind fun r => Sum.elim (fun r => K ⟨.v (.one (.ifc 78 true (.pair (.int .i64) .unit) r)), []⟩) (fun r => K ⟨.v (.one (.raw (.nilIface))), []⟩) r
    | _, _ => none
  legit := fun tvs blks K r h => by
    split at h
    · obtain ⟨x, hx, hk⟩ := Option.bind_eq_some_iff.1 h
      rcases x with x | x <;> (simp only [Sum.elim_inl, Sum.elim_inr] at hk; exact ⟨_, by simp only [hx, Option.bind_some, Sum.elim_inl, Sum.elim_inr], hk⟩)
    · simp at h
def seg_schema_col_1 (g : S_schema_col_1) : Seg where
  path := [1, 1, 1]
  prep := []
  keep := [1]
  F := fun tvs blks {β} K => match tvs, blks with
    | [.v (.one (.ptr 0 0))], [some (.box [(.d .str x0), (.d (.int .i64) x1), (.d .bool x2), (.d (.int .i64) x3), (.d (.int .i64) x4), (.d (.int .u64) x5), (.d .str x6)])] => (g x0 x1 x2 x3 x4 x5 x6).bind fun r => Sum.elim (fun r => K ⟨.v (.one (.ifc 78 true (.pair (.int .i64) .unit) r)), []⟩) (fun r => K ⟨.v (.one (.raw (.nilIface))), []⟩) r
    | _, _ => none
  legit := fun tvs blks K r h => by
    split at h
    · obtain ⟨x, hx, hk⟩ := Option.bind_eq_some_iff.1 h
      rcases x with x | x <;> (simp only [Sum.elim_inl, Sum.elim_inr] at hk; exact ⟨_, by simp only [hx, Option.bind_some, Sum.elim_inl, Sum.elim_inr], hk⟩)
    · simp at h
noncomputable def env_schema_col (g45 : G_values_Check) (g49 : G_names_Check) (s0 : S_schema_col_0) (s1 : S_schema_col_1) : FEnv := { P := Go.Proofs.Tryd.prog, ct := fun m => if m = 45 then some (ct_values_Check g45) else if m = 49 then some (ct_names_Check g49) else none, N := 45, body := Go.Proofs.Tryd.f26.body.getD .skip, rvs := [.tmp 2], rts := [55], nin := 0, rmv := [], segs := [seg_schema_col_0 s0, seg_schema_col_1 s1] }
def schema_col.c {β : Type} (g45 : G_values_Check) (g49 : G_names_Check) (s0 : S_schema_col_0) (s1 : S_schema_col_1) (a0 : ByteArray) (a1 : Int) (a2 : Bool) (a3 : Int) (a4 : Int) (a5 : Int) (a6 : ByteArray) (ret : (((Int × Unit)) ⊕ Unit) → Option β) : Option β := ((g49 a0).bind fun r0 => (bif (r0 != (0 : Int)) then (ret (.inl ((r0, ())))) else (bif (decide (a1 < (1 : Int))) then ((s0 true a0 a1 a2 a3 a4 a5 a6).bind ret) else ((s0 (decide (a1 > (5 : Int))) a0 a1 a2 a3 a4 a5 a6).bind ret))))
def schema_col.s0c {β : Type} (g45 : G_values_Check) (g49 : G_names_Check) (s0 : S_schema_col_0) (s1 : S_schema_col_1) (x0 : Bool) (x1 : ByteArray) (x2 : Int) (x3 : Bool) (x4 : Int) (x5 : Int) (x6 : Int) (x7 : ByteArray) (ret : (((Int × Unit)) ⊕ Unit) → Option β) : Option β := (bif x0 then (ret (.inl (((5 : Int), ())))) else ((s1 x1 x2 x3 x4 x5 x6 x7).bind ret))
def schema_col.s1c {β : Type} (g45 : G_values_Check) (g49 : G_names_Check) (s0 : S_schema_col_0) (s1 : S_schema_col_1) (x0 : ByteArray) (x1 : Int) (x2 : Bool) (x3 : Int) (x4 : Int) (x5 : Int) (x6 : ByteArray) (ret : (((Int × Unit)) ⊕ Unit) → Option β) : Option β := ((g45 x3 x4 x5 x6).bind fun r0 => (bif (r0 != (0 : Int)) then (ret (.inl ((r0, ())))) else (bif (x3 != (0 : Int)) then (bif (x3 != x1) then (ret (.inl (((11 : Int), ())))) else (ret (.inr ()))) else (ret (.inr ())))))
theorem schema_col.c_bind {β : Type} {g45 : G_values_Check} {g49 : G_names_Check} {s0 : S_schema_col_0} {s1 : S_schema_col_1} {a0 : ByteArray} {a1 : Int} {a2 : Bool} {a3 : Int} {a4 : Int} {a5 : Int} {a6 : ByteArray} {ret : (((Int × Unit)) ⊕ Unit) → Option β} : schema_col.c g45 g49 s0 s1 a0 a1 a2 a3 a4 a5 a6 ret = (schema_col.c g45 g49 s0 s1 a0 a1 a2 a3 a4 a5 a6 some).bind ret := by
  simp only [schema_col.c, bif_bind, sum_bind, Option.bind_assoc, Option.bind_some, Option.bind_none, Option.bind_fun_some]
theorem schema_col.s0c_bind {β : Type} {g45 : G_values_Check} {g49 : G_names_Check} {s0 : S_schema_col_0} {s1 : S_schema_col_1} {x0 : Bool} {x1 : ByteArray} {x2 : Int} {x3 : Bool} {x4 : Int} {x5 : Int} {x6 : Int} {x7 : ByteArray} {ret : (((Int × Unit)) ⊕ Unit) → Option β} : schema_col.s0c g45 g49 s0 s1 x0 x1 x2 x3 x4 x5 x6 x7 ret = (schema_col.s0c g45 g49 s0 s1 x0 x1 x2 x3 x4 x5 x6 x7 some).bind ret := by
  simp only [schema_col.s0c, bif_bind, sum_bind, Option.bind_assoc, Option.bind_some, Option.bind_none, Option.bind_fun_some]
theorem schema_col.s1c_bind {β : Type} {g45 : G_values_Check} {g49 : G_names_Check} {s0 : S_schema_col_0} {s1 : S_schema_col_1} {x0 : ByteArray} {x1 : Int} {x2 : Bool} {x3 : Int} {x4 : Int} {x5 : Int} {x6 : ByteArray} {ret : (((Int × Unit)) ⊕ Unit) → Option β} : schema_col.s1c g45 g49 s0 s1 x0 x1 x2 x3 x4 x5 x6 ret = (schema_col.s1c g45 g49 s0 s1 x0 x1 x2 x3 x4 x5 x6 some).bind ret := by
  simp only [schema_col.s1c, bif_bind, sum_bind, Option.bind_assoc, Option.bind_some, Option.bind_none, Option.bind_fun_some]
theorem schema_col.ev {g45 : G_values_Check} {g49 : G_names_Check} {s0 : S_schema_col_0} {s1 : S_schema_col_1} {a0 : ByteArray} {a1 : Int} {a2 : Bool} {a3 : Int} {a4 : Int} {a5 : Int} {a6 : ByteArray} : evAt (env_schema_col g45 g49 s0 s1) [] [0] [.v (.agg [(.d .str a0), (.d (.int .i64) a1), (.d .bool a2), (.d (.int .i64) a3), (.d (.int .i64) a4), (.d (.int .u64) a5), (.d .str a6)])] [] some = schema_col.c g45 g49 s0 s1 a0 a1 a2 a3 a4 a5 a6 (fun r => Sum.elim (fun r => some ⟨.v (.one (.ifc 78 true (.pair (.int .i64) .unit) r)), []⟩) (fun r => some ⟨.v (.one (.raw (.nilIface))), []⟩) r) := by
  kernel_rfl
theorem schema_col.s0_ev {g45 : G_values_Check} {g49 : G_names_Check} {s0 : S_schema_col_0} {s1 : S_schema_col_1} {x0 : Bool} {x1 : ByteArray} {x2 : Int} {x3 : Bool} {x4 : Int} {x5 : Int} {x6 : Int} {x7 : ByteArray} : evAt (env_schema_col g45 g49 s0 s1) [1, 0, 1, 1] [1, 21] [.v (.one (.ptr 0 0)), .v (.one (.d .bool x0))] [some (.box [(.d .str x1), (.d (.int .i64) x2), (.d .bool x3), (.d (.int .i64) x4), (.d (.int .i64) x5), (.d (.int .u64) x6), (.d .str x7)])] some = schema_col.s0c g45 g49 s0 s1 x0 x1 x2 x3 x4 x5 x6 x7 (fun r => Sum.elim (fun r => some ⟨.v (.one (.ifc 78 true (.pair (.int .i64) .unit) r)), []⟩) (fun r => some ⟨.v (.one (.raw (.nilIface))), []⟩) r) := by
  kernel_rfl
theorem schema_col.s1_ev {g45 : G_values_Check} {g49 : G_names_Check} {s0 : S_schema_col_0} {s1 : S_schema_col_1} {x0 : ByteArray} {x1 : Int} {x2 : Bool} {x3 : Int} {x4 : Int} {x5 : Int} {x6 : ByteArray} : evAt (env_schema_col g45 g49 s0 s1) [1, 1, 1] [1] [.v (.one (.ptr 0 0))] [some (.box [(.d .str x0), (.d (.int .i64) x1), (.d .bool x2), (.d (.int .i64) x3), (.d (.int .i64) x4), (.d (.int .u64) x5), (.d .str x6)])] some = schema_col.s1c g45 g49 s0 s1 x0 x1 x2 x3 x4 x5 x6 (fun r => Sum.elim (fun r => some ⟨.v (.one (.ifc 78 true (.pair (.int .i64) .unit) r)), []⟩) (fun r => some ⟨.v (.one (.raw (.nilIface))), []⟩) r) := by
  kernel_rfl
mutual
def schema_col.s0 : Nat → Bool → ByteArray → Int → Bool → Int → Int → Int → ByteArray → Option (((Int × Unit)) ⊕ Unit)
  | 0, _, _, _, _, _, _, _, _ => none
  | k + 1, x0, x1, x2, x3, x4, x5, x6, x7 => schema_col.s0c (values_Check.f k) (names_Check.f k) (schema_col.s0 k) (schema_col.s1 k) x0 x1 x2 x3 x4 x5 x6 x7 some
def schema_col.s1 : Nat → ByteArray → Int → Bool → Int → Int → Int → ByteArray → Option (((Int × Unit)) ⊕ Unit)
  | 0, _, _, _, _, _, _, _ => none
  | k + 1, x0, x1, x2, x3, x4, x5, x6 => schema_col.s1c (values_Check.f k) (names_Check.f k) (schema_col.s0 k) (schema_col.s1 k) x0 x1 x2 x3 x4 x5 x6 some
end
def schema_col.f (k : Nat) (a0 : ByteArray) (a1 : Int) (a2 : Bool) (a3 : Int) (a4 : Int) (a5 : Int) (a6 : ByteArray) : Option (((Int × Unit)) ⊕ Unit) := schema_col.c (values_Check.f k) (names_Check.f k) (schema_col.s0 k) (schema_col.s1 k) a0 a1 a2 a3 a4 a5 a6 some
theorem schema_col.is {g45 : G_values_Check} {g49 : G_names_Check} {s0 : S_schema_col_0} {s1 : S_schema_col_1} : FnIs (env_schema_col g45 g49 s0 s1) 26 Go.Proofs.Tryd.f26 := ⟨Go.Proofs.Tryd.func26, rfl, rfl, rfl, by decide⟩
theorem schema_col.envok {g45 : G_values_Check} {g49 : G_names_Check} {s0 : S_schema_col_0} {s1 : S_schema_col_1} (h45 : CtOK Go.Proofs.Tryd.prog 45 (ct_values_Check g45)) (h49 : CtOK Go.Proofs.Tryd.prog 49 (ct_names_Check g49)) : EnvOK (env_schema_col g45 g49 s0 s1).toEnv := by
  intro f c h
  simp only [env_schema_col] at h
  split at h
  · rename_i e; subst e; cases h; exact h45
  split at h
  · rename_i e; subst e; cases h; exact h49
  simp at h
noncomputable abbrev schema_col.E (k : Nat) : FEnv := env_schema_col (values_Check.f k) (names_Check.f k) (schema_col.s0 k) (schema_col.s1 k)
theorem schema_col.hE (k : Nat) : EnvOK (schema_col.E k).toEnv := schema_col.envok (values_Check.ok k) (names_Check.ok k)
theorem schema_col.segs_ok : ∀ k, ∀ s ∈ (schema_col.E k).segs, SegOK (schema_col.E k) Go.Proofs.Tryd.f26 s
  | 0 => by
    intro s hs
    simp only [schema_col.E, env_schema_col, List.mem_cons, List.not_mem_nil, or_false] at hs
    rcases hs with rfl | rfl
    · intro tvs blks res h; exfalso; simp only [seg_schema_col_0] at h; split at h <;> simp [schema_col.s0] at h
    · intro tvs blks res h; exfalso; simp only [seg_schema_col_1] at h; split at h <;> simp [schema_col.s1] at h
  | k + 1 => by
    intro s hs
    simp only [schema_col.E, env_schema_col, List.mem_cons, List.not_mem_nil, or_false] at hs
    rcases hs with rfl | rfl
    · refine seg_of_ev (E := schema_col.E k) (schema_col.hE k) ⟨schema_col.is.rvs⟩ (schema_col.segs_ok k) ?_
      intro tvs blks res h
      simp only [seg_schema_col_0] at h
      split at h
      · exact (schema_col.s0_ev.trans schema_col.s0c_bind).trans h
      · simp at h
    · refine seg_of_ev (E := schema_col.E k) (schema_col.hE k) ⟨schema_col.is.rvs⟩ (schema_col.segs_ok k) ?_
      intro tvs blks res h
      simp only [seg_schema_col_1] at h
      split at h
      · exact (schema_col.s1_ev.trans schema_col.s1c_bind).trans h
      · simp at h
theorem schema_col.ok (k : Nat) : CtOK Go.Proofs.Tryd.prog 26 (ct_schema_col (schema_col.f k)) := by
  refine ct_of_ev (E := schema_col.E k) schema_col.is (schema_col.hE k) (schema_col.segs_ok k) rfl ?_
  intro tvs blks res h
  simp only [ct_schema_col] at h
  split at h
  · exact (schema_col.ev.trans schema_col.c_bind).trans h
  · simp at h

/-! ### schema_CheckCol: function 8 -/
abbrev G_schema_CheckCol : Type := ByteArray → Int → Bool → Int → Int → Int → ByteArray → Option Int
def ct_schema_CheckCol (g : G_schema_CheckCol) : Ct where
  nin := 0
  mv := []
  F := fun tvs blks {β} K => match tvs, blks with
    | [.v (.agg [(.d .str a0), (.d (.int .i64) a1), (.d .bool a2), (.d (.int .i64) a3), (.d (.int .i64) a4), (.d (.int .u64) a5), (.d .str a6)])], [] => (g a0 a1 a2 a3 a4 a5 a6).bind fun r => K ⟨.v (.one (.d (.int .i64) r)), []⟩
    | _, _ => none
  legit := fun tvs blks K r h => by
    split at h
    · obtain ⟨x, hx, hk⟩ := Option.bind_eq_some_iff.1 h
      refine ⟨_, ?_, hk⟩
      simp only [hx, Option.bind_some]
    · simp at h
noncomputable def env_schema_CheckCol (g26 : G_schema_col)  : FEnv := { P := Go.Proofs.Tryd.prog, ct := fun m => if m = 25 then some (ct_schema_number ) else if m = 26 then some (ct_schema_col g26) else none, N := 6, body := Go.Proofs.Tryd.f8.body.getD .skip, rvs := [.tmp 2], rts := [27], nin := 0, rmv := [], segs := [] }
def schema_CheckCol.c {β : Type} (g26 : G_schema_col)  (a0 : ByteArray) (a1 : Int) (a2 : Bool) (a3 : Int) (a4 : Int) (a5 : Int) (a6 : ByteArray) (ret : Int → Option β) : Option β := ((g26 a0 a1 a2 a3 a4 a5 a6).bind fun r0 => (Sum.elim (fun r1 => (ret (r1.1))) (fun r2 => (ret ((0 : Int)))) r0))
theorem schema_CheckCol.c_bind {β : Type} {g26 : G_schema_col}  {a0 : ByteArray} {a1 : Int} {a2 : Bool} {a3 : Int} {a4 : Int} {a5 : Int} {a6 : ByteArray} {ret : Int → Option β} : schema_CheckCol.c g26  a0 a1 a2 a3 a4 a5 a6 ret = (schema_CheckCol.c g26  a0 a1 a2 a3 a4 a5 a6 some).bind ret := by
  simp only [schema_CheckCol.c, bif_bind, sum_bind, Option.bind_assoc, Option.bind_some, Option.bind_none, Option.bind_fun_some]
theorem schema_CheckCol.ev {g26 : G_schema_col}  {a0 : ByteArray} {a1 : Int} {a2 : Bool} {a3 : Int} {a4 : Int} {a5 : Int} {a6 : ByteArray} : evAt (env_schema_CheckCol g26 ) [] [0] [.v (.agg [(.d .str a0), (.d (.int .i64) a1), (.d .bool a2), (.d (.int .i64) a3), (.d (.int .i64) a4), (.d (.int .u64) a5), (.d .str a6)])] [] some = schema_CheckCol.c g26  a0 a1 a2 a3 a4 a5 a6 (fun r => some ⟨.v (.one (.d (.int .i64) r)), []⟩) := by
  kernel_rfl
def schema_CheckCol.f (k : Nat) (a0 : ByteArray) (a1 : Int) (a2 : Bool) (a3 : Int) (a4 : Int) (a5 : Int) (a6 : ByteArray) : Option Int := schema_CheckCol.c  (schema_col.f k)  a0 a1 a2 a3 a4 a5 a6 some
theorem schema_CheckCol.is {g26 : G_schema_col}  : FnIs (env_schema_CheckCol g26 ) 8 Go.Proofs.Tryd.f8 := ⟨Go.Proofs.Tryd.func8, rfl, rfl, rfl, by decide⟩
theorem schema_CheckCol.envok {g26 : G_schema_col}  (h25 : CtOK Go.Proofs.Tryd.prog 25 (ct_schema_number )) (h26 : CtOK Go.Proofs.Tryd.prog 26 (ct_schema_col g26)) : EnvOK (env_schema_CheckCol g26 ).toEnv := by
  intro f c h
  simp only [env_schema_CheckCol] at h
  split at h
  · rename_i e; subst e; cases h; exact h25
  split at h
  · rename_i e; subst e; cases h; exact h26
  simp at h
noncomputable abbrev schema_CheckCol.E (k : Nat) : FEnv := env_schema_CheckCol  (schema_col.f k) 
theorem schema_CheckCol.hE (k : Nat) : EnvOK (schema_CheckCol.E k).toEnv := schema_CheckCol.envok (schema_number.ok k) (schema_col.ok k)
theorem schema_CheckCol.ok (k : Nat) : CtOK Go.Proofs.Tryd.prog 8 (ct_schema_CheckCol (schema_CheckCol.f k)) := by
  refine ct_of_ev (E := schema_CheckCol.E k) schema_CheckCol.is (schema_CheckCol.hE k) (fun s hs => by simp [schema_CheckCol.E, env_schema_CheckCol] at hs) rfl ?_
  intro tvs blks res h
  simp only [ct_schema_CheckCol] at h
  split at h
  · exact (schema_CheckCol.ev.trans schema_CheckCol.c_bind).trans h
  · simp at h

/-! ### schema_words: function 33 -/
abbrev G_schema_words : Type := (List D_api_Col) → Option ((List ByteArray))
def ct_schema_words (g : G_schema_words) : Ct where
  nin := 0
  mv := []
  F := fun tvs blks {β} K => match tvs, blks with
    | [.v (.one (.d (.sl (.pair .str (.pair (.int .i64) (.pair .bool (.pair (.pair (.int .i64) (.pair (.int .i64) (.pair (.int .u64) (.pair .str .unit)))) .unit))))) a0))], [] => (g a0).bind fun r => K ⟨.v (.one (.d (.sl .str) r)), []⟩
    | _, _ => none
  legit := fun tvs blks K r h => by
    split at h
    · obtain ⟨x, hx, hk⟩ := Option.bind_eq_some_iff.1 h
      refine ⟨_, ?_, hk⟩
      simp only [hx, Option.bind_some]
    · simp at h
abbrev S_schema_words_0 : Type := (List D_api_Col) → Int → Int → (List ByteArray) → Option ((List ByteArray))
def seg_schema_words_0 (g : S_schema_words_0) : Seg where
  path := [4, 1, 0, 1, 1]
  prep := []
  keep := [3, 9, 10, 11]
  F := fun tvs blks {β} K => match tvs, blks with
    | [.v (.one (.own 0)), .v (.one (.d (.sl (.pair .str (.pair (.int .i64) (.pair .bool (.pair (.pair (.int .i64) (.pair (.int .i64) (.pair (.int .u64) (.pair .str .unit)))) .unit))))) x0)), .v (.one (.d (.int .i64) x1)), .v (.one (.d (.int .i64) x2))], [some (.own .str true x3)] => (g x0 x1 x2 x3).bind fun r => K ⟨.v (.one (.d (.sl .str) r)), []⟩
    | _, _ => none
  legit := fun tvs blks K r h => by
    split at h
    · obtain ⟨x, hx, hk⟩ := Option.bind_eq_some_iff.1 h
      refine ⟨_, ?_, hk⟩
      simp only [hx, Option.bind_some]
    · simp at h
noncomputable def env_schema_words  (s0 : S_schema_words_0) : FEnv := { P := Go.Proofs.Tryd.prog, ct := fun m => none, N := 23, body := Go.Proofs.Tryd.f33.body.getD .skip, rvs := [.tmp 2], rts := [60], nin := 0, rmv := [], segs := [seg_schema_words_0 s0] }
def schema_words.c {β : Type}  (s0 : S_schema_words_0) (a0 : List D_api_Col) (ret : ((List ByteArray)) → Option β) : Option β := (bif ((true && (decide (((List.length a0) : Int) ≤ ((List.length a0) : Int)))) && (decide ((((List.length a0) : Int) * (16 : Int)) ≤ (35184372088832 : Int)))) then ((s0 a0 ((List.length a0) : Int) (0 : Int) (List.replicate (Int.toNat ((List.length a0) : Int)) (ByteArray.mk (List.toArray [])))).bind ret) else none)
def schema_words.s0c {β : Type}  (s0 : S_schema_words_0) (x0 : List D_api_Col) (x1 : Int) (x2 : Int) (x3 : List ByteArray) (ret : ((List ByteArray)) → Option β) : Option β := (bif (decide (x2 < x1)) then (bif ((decide ((0 : Int) ≤ x2)) && (decide (x2 < ((List.length x0) : Int)))) then (bif ((decide ((0 : Int) ≤ x2)) && (decide (x2 < ((List.length x3) : Int)))) then ((s0 x0 x1 (IntKind.wrap IntKind.i64 (x2 + (1 : Int))) (List.set x3 (Int.toNat x2) (elem T_api_Col x0 x2).1)).bind ret) else none) else none) else (ret (x3)))
theorem schema_words.c_bind {β : Type}  {s0 : S_schema_words_0} {a0 : List D_api_Col} {ret : ((List ByteArray)) → Option β} : schema_words.c  s0 a0 ret = (schema_words.c  s0 a0 some).bind ret := by
  simp only [schema_words.c, bif_bind, sum_bind, Option.bind_assoc, Option.bind_some, Option.bind_none, Option.bind_fun_some]
theorem schema_words.s0c_bind {β : Type}  {s0 : S_schema_words_0} {x0 : List D_api_Col} {x1 : Int} {x2 : Int} {x3 : List ByteArray} {ret : ((List ByteArray)) → Option β} : schema_words.s0c  s0 x0 x1 x2 x3 ret = (schema_words.s0c  s0 x0 x1 x2 x3 some).bind ret := by
  simp only [schema_words.s0c, bif_bind, sum_bind, Option.bind_assoc, Option.bind_some, Option.bind_none, Option.bind_fun_some]
theorem schema_words.ev  {s0 : S_schema_words_0} {a0 : List D_api_Col} : evAt (env_schema_words  s0) [] [0] [.v (.one (.d (.sl T_api_Col) a0))] [] some = schema_words.c  s0 a0 (fun r => some ⟨.v (.one (.d (.sl .str) r)), []⟩) := by
  kernel_rfl
theorem schema_words.s0_ev  {s0 : S_schema_words_0} {x0 : List D_api_Col} {x1 : Int} {x2 : Int} {x3 : List ByteArray} : evAt (env_schema_words  s0) [4, 1, 0, 1, 1] [3, 9, 10, 11] [.v (.one (.own 0)), .v (.one (.d (.sl T_api_Col) x0)), .v (.one (.d (.int .i64) x1)), .v (.one (.d (.int .i64) x2))] [some (.own .str true x3)] some = schema_words.s0c  s0 x0 x1 x2 x3 (fun r => some ⟨.v (.one (.d (.sl .str) r)), []⟩) := by
  kernel_rfl
def schema_words.s0 : Nat → (List D_api_Col) → Int → Int → (List ByteArray) → Option ((List ByteArray))
  | 0, _, _, _, _ => none
  | k + 1, x0, x1, x2, x3 => schema_words.s0c  (schema_words.s0 k) x0 x1 x2 x3 some
def schema_words.f (k : Nat) (a0 : List D_api_Col) : Option ((List ByteArray)) := schema_words.c  (schema_words.s0 k) a0 some
theorem schema_words.is  {s0 : S_schema_words_0} : FnIs (env_schema_words  s0) 33 Go.Proofs.Tryd.f33 := ⟨Go.Proofs.Tryd.func33, rfl, rfl, rfl, by decide⟩
theorem schema_words.envok  {s0 : S_schema_words_0}  : EnvOK (env_schema_words  s0).toEnv := by
  intro f c h
  simp only [env_schema_words] at h
  simp at h
noncomputable abbrev schema_words.E (k : Nat) : FEnv := env_schema_words  (schema_words.s0 k)
theorem schema_words.hE (k : Nat) : EnvOK (schema_words.E k).toEnv := schema_words.envok 
theorem schema_words.segs_ok : ∀ k, ∀ s ∈ (schema_words.E k).segs, SegOK (schema_words.E k) Go.Proofs.Tryd.f33 s
  | 0 => by
    intro s hs
    simp only [schema_words.E, env_schema_words, List.mem_cons, List.not_mem_nil, or_false] at hs
    rcases hs with rfl
    · intro tvs blks res h; exfalso; simp only [seg_schema_words_0] at h; split at h <;> simp [schema_words.s0] at h
  | k + 1 => by
    intro s hs
    simp only [schema_words.E, env_schema_words, List.mem_cons, List.not_mem_nil, or_false] at hs
    rcases hs with rfl
    · refine seg_of_ev (E := schema_words.E k) (schema_words.hE k) ⟨schema_words.is.rvs⟩ (schema_words.segs_ok k) ?_
      intro tvs blks res h
      simp only [seg_schema_words_0] at h
      split at h
      · exact (schema_words.s0_ev.trans schema_words.s0c_bind).trans h
      · simp at h
theorem schema_words.ok (k : Nat) : CtOK Go.Proofs.Tryd.prog 33 (ct_schema_words (schema_words.f k)) := by
  refine ct_of_ev (E := schema_words.E k) schema_words.is (schema_words.hE k) (schema_words.segs_ok k) rfl ?_
  intro tvs blks res h
  simp only [ct_schema_words] at h
  split at h
  · exact (schema_words.ev.trans schema_words.c_bind).trans h
  · simp at h
end Go.Proofs.YtddlebbjaadbeaaDoor.Aev
