/- By a program of this session (AEV): functions of the program as plain functions, and that the machine does what they say. -/
import Derived.Test.YtddlebbjaadbeaaDoorTys
import Derived.Test.YtddlebbjaadbeaaDoorProg
import Derived.Laws.Externs
import Derived.Lib.Bytealg
import Derived.Test.YtddlebbjaadbeaaDoorF11
import Derived.Test.YtddlebbjaadbeaaDoorF12
import Derived.Test.YtddlebbjaadbeaaDoorF13
namespace Go.Proofs.YtddlebbjaadbeaaDoor.Aev
set_option linter.unusedVariables false
set_option linter.unusedSimpArgs false
set_option maxRecDepth 100000
set_option maxHeartbeats 4000000
open Go
/-! ### transomref04_Check: function 28 -/
abbrev G_transomref04_Check : Type := Int → Int → Int → ByteArray → Option Int
def ct_transomref04_Check (g : G_transomref04_Check) : Ct where
  nin := 0
  mv := []
  F := fun tvs blks {β} K => match tvs, blks with
    | [.v (.agg [(.d (.int .i64) a0), (.d (.int .i64) a1), (.d (.int .u64) a2), (.d .str a3)])], [] => (g a0 a1 a2 a3).bind fun r => K ⟨.v (.one (.d (.int .i64) r)), []⟩
    | _, _ => none
  legit := fun tvs blks K r h => by
    split at h
    · obtain ⟨x, hx, hk⟩ := Option.bind_eq_some_iff.1 h
      refine ⟨_, ?_, hk⟩
      simp only [hx, Option.bind_some]
    · simp at h
abbrev S_transomref04_Check_0 : Type := Bool → Int → Int → Int → ByteArray → Option Int
abbrev S_transomref04_Check_1 : Type := Bool → Bool → Int → Int → Int → ByteArray → Option Int
abbrev S_transomref04_Check_2 : Type := Bool → Bool → Bool → Int → Int → Int → ByteArray → Option Int
abbrev S_transomref04_Check_3 : Type := Bool → Int → Int → Int → ByteArray → Option Int
abbrev S_transomref04_Check_4 : Type := Bool → Int → Int → Int → ByteArray → Option Int
abbrev S_transomref04_Check_5 : Type := Bool → Int → Int → Int → ByteArray → Option Int
def seg_transomref04_Check_0 (g : S_transomref04_Check_0) : Seg where
  path := [1, 1]
  prep := []
  keep := [1, 3]
  F := fun tvs blks {β} K => match tvs, blks with
    | [.v (.one (.ptr 0 0)), .v (.one (.d .bool x0))], [some (.box [(.d (.int .i64) x1), (.d (.int .i64) x2), (.d (.int .u64) x3), (.d .str x4)])] => (g x0 x1 x2 x3 x4).bind fun r => K ⟨.v (.one (.d (.int .i64) r)), []⟩
    | _, _ => none
  legit := fun tvs blks K r h => by
    split at h
    · obtain ⟨x, hx, hk⟩ := Option.bind_eq_some_iff.1 h
      refine ⟨_, ?_, hk⟩
      simp only [hx, Option.bind_some]
    · simp at h
def seg_transomref04_Check_1 (g : S_transomref04_Check_1) : Seg where
  path := [1, 1, 1]
  prep := []
  keep := [1, 3, 4]
  F := fun tvs blks {β} K => match tvs, blks with
    | [.v (.one (.ptr 0 0)), .v (.one (.d .bool x0)), .v (.one (.d .bool x1))], [some (.box [(.d (.int .i64) x2), (.d (.int .i64) x3), (.d (.int .u64) x4), (.d .str x5)])] => (g x0 x1 x2 x3 x4 x5).bind fun r => K ⟨.v (.one (.d (.int .i64) r)), []⟩
    | _, _ => none
  legit := fun tvs blks K r h => by
    split at h
    · obtain ⟨x, hx, hk⟩ := Option.bind_eq_some_iff.1 h
      refine ⟨_, ?_, hk⟩
      simp only [hx, Option.bind_some]
    · simp at h
def seg_transomref04_Check_2 (g : S_transomref04_Check_2) : Seg where
  path := [1, 4, 0, 1, 1, 1]
  prep := []
  keep := [1, 3, 4, 21]
  F := fun tvs blks {β} K => match tvs, blks with
    | [.v (.one (.ptr 0 0)), .v (.one (.d .bool x0)), .v (.one (.d .bool x1)), .v (.one (.d .bool x2))], [some (.box [(.d (.int .i64) x3), (.d (.int .i64) x4), (.d (.int .u64) x5), (.d .str x6)])] => (g x0 x1 x2 x3 x4 x5 x6).bind fun r => K ⟨.v (.one (.d (.int .i64) r)), []⟩
    | _, _ => none
  legit := fun tvs blks K r h => by
    split at h
    · obtain ⟨x, hx, hk⟩ := Option.bind_eq_some_iff.1 h
      refine ⟨_, ?_, hk⟩
      simp only [hx, Option.bind_some]
    · simp at h
def seg_transomref04_Check_3 (g : S_transomref04_Check_3) : Seg where
  path := [1, 3, 1, 4, 0, 1, 1, 1]
  prep := []
  keep := [1, 30]
  F := fun tvs blks {β} K => match tvs, blks with
    | [.v (.one (.ptr 0 0)), .v (.one (.d .bool x0))], [some (.box [(.d (.int .i64) x1), (.d (.int .i64) x2), (.d (.int .u64) x3), (.d .str x4)])] => (g x0 x1 x2 x3 x4).bind fun r => K ⟨.v (.one (.d (.int .i64) r)), []⟩
    | _, _ => none
  legit := fun tvs blks K r h => by
    split at h
    · obtain ⟨x, hx, hk⟩ := Option.bind_eq_some_iff.1 h
      refine ⟨_, ?_, hk⟩
      simp only [hx, Option.bind_some]
    · simp at h
def seg_transomref04_Check_4 (g : S_transomref04_Check_4) : Seg where
  path := [1, 3, 1, 3, 1, 4, 0, 1, 1, 1]
  prep := []
  keep := [1, 57]
  F := fun tvs blks {β} K => match tvs, blks with
    | [.v (.one (.ptr 0 0)), .v (.one (.d .bool x0))], [some (.box [(.d (.int .i64) x1), (.d (.int .i64) x2), (.d (.int .u64) x3), (.d .str x4)])] => (g x0 x1 x2 x3 x4).bind fun r => K ⟨.v (.one (.d (.int .i64) r)), []⟩
    | _, _ => none
  legit := fun tvs blks K r h => by
    split at h
    · obtain ⟨x, hx, hk⟩ := Option.bind_eq_some_iff.1 h
      refine ⟨_, ?_, hk⟩
      simp only [hx, Option.bind_some]
    · simp at h
def seg_transomref04_Check_5 (g : S_transomref04_Check_5) : Seg where
  path := [1, 3, 1, 3, 1, 3, 1, 4, 0, 1, 1, 1]
  prep := []
  keep := [1, 71]
  F := fun tvs blks {β} K => match tvs, blks with
    | [.v (.one (.ptr 0 0)), .v (.one (.d .bool x0))], [some (.box [(.d (.int .i64) x1), (.d (.int .i64) x2), (.d (.int .u64) x3), (.d .str x4)])] => (g x0 x1 x2 x3 x4).bind fun r => K ⟨.v (.one (.d (.int .i64) r)), []⟩
    | _, _ => none
  legit := fun tvs blks K r h => by
    split at h
    · obtain ⟨x, hx, hk⟩ := Option.bind_eq_some_iff.1 h
      refine ⟨_, ?_, hk⟩
      simp only [hx, Option.bind_some]
    · simp at h
noncomputable def env_transomref04_Check (g51 : G_transomref02_Canon) (g52 : G_transomref01_Valid) (s0 : S_transomref04_Check_0) (s1 : S_transomref04_Check_1) (s2 : S_transomref04_Check_2) (s3 : S_transomref04_Check_3) (s4 : S_transomref04_Check_4) (s5 : S_transomref04_Check_5) : FEnv := { P := Go.Proofs.Tryd.prog, ct := fun m => if m = 51 then some (ct_transomref02_Canon g51) else if m = 52 then some (ct_transomref01_Valid g52) else none, N := 98, body := Go.Proofs.Tryd.f28.body.getD .skip, rvs := [.tmp 2], rts := [3], nin := 0, rmv := [], segs := [seg_transomref04_Check_0 s0, seg_transomref04_Check_1 s1, seg_transomref04_Check_2 s2, seg_transomref04_Check_3 s3, seg_transomref04_Check_4 s4, seg_transomref04_Check_5 s5] }
def transomref04_Check.c {β : Type} (g51 : G_transomref02_Canon) (g52 : G_transomref01_Valid) (s0 : S_transomref04_Check_0) (s1 : S_transomref04_Check_1) (s2 : S_transomref04_Check_2) (s3 : S_transomref04_Check_3) (s4 : S_transomref04_Check_4) (s5 : S_transomref04_Check_5) (a0 : Int) (a1 : Int) (a2 : Int) (a3 : ByteArray) (ret : Int → Option β) : Option β := (bif (a0 == (1 : Int)) then ((s0 true a0 a1 a2 a3).bind ret) else ((s0 (a0 == (2 : Int)) a0 a1 a2 a3).bind ret))
def transomref04_Check.s0c {β : Type} (g51 : G_transomref02_Canon) (g52 : G_transomref01_Valid) (s0 : S_transomref04_Check_0) (s1 : S_transomref04_Check_1) (s2 : S_transomref04_Check_2) (s3 : S_transomref04_Check_3) (s4 : S_transomref04_Check_4) (s5 : S_transomref04_Check_5) (x0 : Bool) (x1 : Int) (x2 : Int) (x3 : Int) (x4 : ByteArray) (ret : Int → Option β) : Option β := (bif (x1 == (4 : Int)) then ((s1 x0 true x1 x2 x3 x4).bind ret) else ((s1 x0 (x1 == (5 : Int)) x1 x2 x3 x4).bind ret))
def transomref04_Check.s1c {β : Type} (g51 : G_transomref02_Canon) (g52 : G_transomref01_Valid) (s0 : S_transomref04_Check_0) (s1 : S_transomref04_Check_1) (s2 : S_transomref04_Check_2) (s3 : S_transomref04_Check_3) (s4 : S_transomref04_Check_4) (s5 : S_transomref04_Check_5) (x0 : Bool) (x1 : Bool) (x2 : Int) (x3 : Int) (x4 : Int) (x5 : ByteArray) (ret : Int → Option β) : Option β := (bif (decide (x2 < (0 : Int))) then ((s2 x0 x1 true x2 x3 x4 x5).bind ret) else ((s2 x0 x1 (decide (x2 > (5 : Int))) x2 x3 x4 x5).bind ret))
def transomref04_Check.s2c {β : Type} (g51 : G_transomref02_Canon) (g52 : G_transomref01_Valid) (s0 : S_transomref04_Check_0) (s1 : S_transomref04_Check_1) (s2 : S_transomref04_Check_2) (s3 : S_transomref04_Check_3) (s4 : S_transomref04_Check_4) (s5 : S_transomref04_Check_5) (x0 : Bool) (x1 : Bool) (x2 : Bool) (x3 : Int) (x4 : Int) (x5 : Int) (x6 : ByteArray) (ret : Int → Option β) : Option β := (bif x2 then (ret ((5 : Int))) else (bif (x4 != (0 : Int)) then (bif (!x0) then ((s3 true x3 x4 x5 x6).bind ret) else (bif (x5 != (0 : Int)) then (bif (x3 != (3 : Int)) then ((s3 true x3 x4 x5 x6).bind ret) else (bif (!((ByteArray.toList x6) == (ByteArray.toList (ByteArray.mk (List.toArray []))))) then ((s3 (!x1) x3 x4 x5 x6).bind ret) else ((s3 false x3 x4 x5 x6).bind ret))) else (bif (!((ByteArray.toList x6) == (ByteArray.toList (ByteArray.mk (List.toArray []))))) then ((s3 (!x1) x3 x4 x5 x6).bind ret) else ((s3 false x3 x4 x5 x6).bind ret)))) else (bif (x5 != (0 : Int)) then (bif (x3 != (3 : Int)) then ((s3 true x3 x4 x5 x6).bind ret) else (bif (!((ByteArray.toList x6) == (ByteArray.toList (ByteArray.mk (List.toArray []))))) then ((s3 (!x1) x3 x4 x5 x6).bind ret) else ((s3 false x3 x4 x5 x6).bind ret))) else (bif (!((ByteArray.toList x6) == (ByteArray.toList (ByteArray.mk (List.toArray []))))) then ((s3 (!x1) x3 x4 x5 x6).bind ret) else ((s3 false x3 x4 x5 x6).bind ret)))))
def transomref04_Check.s3c {β : Type} (g51 : G_transomref02_Canon) (g52 : G_transomref01_Valid) (s0 : S_transomref04_Check_0) (s1 : S_transomref04_Check_1) (s2 : S_transomref04_Check_2) (s3 : S_transomref04_Check_3) (s4 : S_transomref04_Check_4) (s5 : S_transomref04_Check_5) (x0 : Bool) (x1 : Int) (x2 : Int) (x3 : Int) (x4 : ByteArray) (ret : Int → Option β) : Option β := (bif x0 then (ret ((4 : Int))) else (bif (x1 == (1 : Int)) then (bif (x2 != (0 : Int)) then ((s4 (x2 != (1 : Int)) x1 x2 x3 x4).bind ret) else ((s4 false x1 x2 x3 x4).bind ret)) else ((s4 false x1 x2 x3 x4).bind ret)))
def transomref04_Check.s4c {β : Type} (g51 : G_transomref02_Canon) (g52 : G_transomref01_Valid) (s0 : S_transomref04_Check_0) (s1 : S_transomref04_Check_1) (s2 : S_transomref04_Check_2) (s3 : S_transomref04_Check_3) (s4 : S_transomref04_Check_4) (s5 : S_transomref04_Check_5) (x0 : Bool) (x1 : Int) (x2 : Int) (x3 : Int) (x4 : ByteArray) (ret : Int → Option β) : Option β := (bif x0 then (ret ((6 : Int))) else (bif (x1 == (3 : Int)) then ((g51 x3).bind fun r0 => ((s5 (r0 != x3) x1 x2 x3 x4).bind ret)) else ((s5 false x1 x2 x3 x4).bind ret)))
def transomref04_Check.s5c {β : Type} (g51 : G_transomref02_Canon) (g52 : G_transomref01_Valid) (s0 : S_transomref04_Check_0) (s1 : S_transomref04_Check_1) (s2 : S_transomref04_Check_2) (s3 : S_transomref04_Check_3) (s4 : S_transomref04_Check_4) (s5 : S_transomref04_Check_5) (x0 : Bool) (x1 : Int) (x2 : Int) (x3 : Int) (x4 : ByteArray) (ret : Int → Option β) : Option β := (bif x0 then (ret ((4 : Int))) else (bif (decide (((ByteArray.size x4) : Int) > (64 : Int))) then (ret ((2 : Int))) else (bif (x1 == (5 : Int)) then ((g52 x4).bind fun r0 => (bif (!r0) then (ret ((7 : Int))) else (ret ((0 : Int))))) else (ret ((0 : Int))))))
theorem transomref04_Check.c_bind {β : Type} {g51 : G_transomref02_Canon} {g52 : G_transomref01_Valid} {s0 : S_transomref04_Check_0} {s1 : S_transomref04_Check_1} {s2 : S_transomref04_Check_2} {s3 : S_transomref04_Check_3} {s4 : S_transomref04_Check_4} {s5 : S_transomref04_Check_5} {a0 : Int} {a1 : Int} {a2 : Int} {a3 : ByteArray} {ret : Int → Option β} : transomref04_Check.c g51 g52 s0 s1 s2 s3 s4 s5 a0 a1 a2 a3 ret = (transomref04_Check.c g51 g52 s0 s1 s2 s3 s4 s5 a0 a1 a2 a3 some).bind ret := by
  simp only [transomref04_Check.c, bif_bind, sum_bind, Option.bind_assoc, Option.bind_some, Option.bind_none, Option.bind_fun_some]
theorem transomref04_Check.s0c_bind {β : Type} {g51 : G_transomref02_Canon} {g52 : G_transomref01_Valid} {s0 : S_transomref04_Check_0} {s1 : S_transomref04_Check_1} {s2 : S_transomref04_Check_2} {s3 : S_transomref04_Check_3} {s4 : S_transomref04_Check_4} {s5 : S_transomref04_Check_5} {x0 : Bool} {x1 : Int} {x2 : Int} {x3 : Int} {x4 : ByteArray} {ret : Int → Option β} : transomref04_Check.s0c g51 g52 s0 s1 s2 s3 s4 s5 x0 x1 x2 x3 x4 ret = (transomref04_Check.s0c g51 g52 s0 s1 s2 s3 s4 s5 x0 x1 x2 x3 x4 some).bind ret := by
  simp only [transomref04_Check.s0c, bif_bind, sum_bind, Option.bind_assoc, Option.bind_some, Option.bind_none, Option.bind_fun_some]
theorem transomref04_Check.s1c_bind {β : Type} {g51 : G_transomref02_Canon} {g52 : G_transomref01_Valid} {s0 : S_transomref04_Check_0} {s1 : S_transomref04_Check_1} {s2 : S_transomref04_Check_2} {s3 : S_transomref04_Check_3} {s4 : S_transomref04_Check_4} {s5 : S_transomref04_Check_5} {x0 : Bool} {x1 : Bool} {x2 : Int} {x3 : Int} {x4 : Int} {x5 : ByteArray} {ret : Int → Option β} : transomref04_Check.s1c g51 g52 s0 s1 s2 s3 s4 s5 x0 x1 x2 x3 x4 x5 ret = (transomref04_Check.s1c g51 g52 s0 s1 s2 s3 s4 s5 x0 x1 x2 x3 x4 x5 some).bind ret := by
  simp only [transomref04_Check.s1c, bif_bind, sum_bind, Option.bind_assoc, Option.bind_some, Option.bind_none, Option.bind_fun_some]
theorem transomref04_Check.s2c_bind {β : Type} {g51 : G_transomref02_Canon} {g52 : G_transomref01_Valid} {s0 : S_transomref04_Check_0} {s1 : S_transomref04_Check_1} {s2 : S_transomref04_Check_2} {s3 : S_transomref04_Check_3} {s4 : S_transomref04_Check_4} {s5 : S_transomref04_Check_5} {x0 : Bool} {x1 : Bool} {x2 : Bool} {x3 : Int} {x4 : Int} {x5 : Int} {x6 : ByteArray} {ret : Int → Option β} : transomref04_Check.s2c g51 g52 s0 s1 s2 s3 s4 s5 x0 x1 x2 x3 x4 x5 x6 ret = (transomref04_Check.s2c g51 g52 s0 s1 s2 s3 s4 s5 x0 x1 x2 x3 x4 x5 x6 some).bind ret := by
  simp only [transomref04_Check.s2c, bif_bind, sum_bind, Option.bind_assoc, Option.bind_some, Option.bind_none, Option.bind_fun_some]
theorem transomref04_Check.s3c_bind {β : Type} {g51 : G_transomref02_Canon} {g52 : G_transomref01_Valid} {s0 : S_transomref04_Check_0} {s1 : S_transomref04_Check_1} {s2 : S_transomref04_Check_2} {s3 : S_transomref04_Check_3} {s4 : S_transomref04_Check_4} {s5 : S_transomref04_Check_5} {x0 : Bool} {x1 : Int} {x2 : Int} {x3 : Int} {x4 : ByteArray} {ret : Int → Option β} : transomref04_Check.s3c g51 g52 s0 s1 s2 s3 s4 s5 x0 x1 x2 x3 x4 ret = (transomref04_Check.s3c g51 g52 s0 s1 s2 s3 s4 s5 x0 x1 x2 x3 x4 some).bind ret := by
  simp only [transomref04_Check.s3c, bif_bind, sum_bind, Option.bind_assoc, Option.bind_some, Option.bind_none, Option.bind_fun_some]
theorem transomref04_Check.s4c_bind {β : Type} {g51 : G_transomref02_Canon} {g52 : G_transomref01_Valid} {s0 : S_transomref04_Check_0} {s1 : S_transomref04_Check_1} {s2 : S_transomref04_Check_2} {s3 : S_transomref04_Check_3} {s4 : S_transomref04_Check_4} {s5 : S_transomref04_Check_5} {x0 : Bool} {x1 : Int} {x2 : Int} {x3 : Int} {x4 : ByteArray} {ret : Int → Option β} : transomref04_Check.s4c g51 g52 s0 s1 s2 s3 s4 s5 x0 x1 x2 x3 x4 ret = (transomref04_Check.s4c g51 g52 s0 s1 s2 s3 s4 s5 x0 x1 x2 x3 x4 some).bind ret := by
  simp only [transomref04_Check.s4c, bif_bind, sum_bind, Option.bind_assoc, Option.bind_some, Option.bind_none, Option.bind_fun_some]
theorem transomref04_Check.s5c_bind {β : Type} {g51 : G_transomref02_Canon} {g52 : G_transomref01_Valid} {s0 : S_transomref04_Check_0} {s1 : S_transomref04_Check_1} {s2 : S_transomref04_Check_2} {s3 : S_transomref04_Check_3} {s4 : S_transomref04_Check_4} {s5 : S_transomref04_Check_5} {x0 : Bool} {x1 : Int} {x2 : Int} {x3 : Int} {x4 : ByteArray} {ret : Int → Option β} : transomref04_Check.s5c g51 g52 s0 s1 s2 s3 s4 s5 x0 x1 x2 x3 x4 ret = (transomref04_Check.s5c g51 g52 s0 s1 s2 s3 s4 s5 x0 x1 x2 x3 x4 some).bind ret := by
  simp only [transomref04_Check.s5c, bif_bind, sum_bind, Option.bind_assoc, Option.bind_some, Option.bind_none, Option.bind_fun_some]
theorem transomref04_Check.ev {g51 : G_transomref02_Canon} {g52 : G_transomref01_Valid} {s0 : S_transomref04_Check_0} {s1 : S_transomref04_Check_1} {s2 : S_transomref04_Check_2} {s3 : S_transomref04_Check_3} {s4 : S_transomref04_Check_4} {s5 : S_transomref04_Check_5} {a0 : Int} {a1 : Int} {a2 : Int} {a3 : ByteArray} : evAt (env_transomref04_Check g51 g52 s0 s1 s2 s3 s4 s5) [] [0] [.v (.agg [(.d (.int .i64) a0), (.d (.int .i64) a1), (.d (.int .u64) a2), (.d .str a3)])] [] some = transomref04_Check.c g51 g52 s0 s1 s2 s3 s4 s5 a0 a1 a2 a3 (fun r => some ⟨.v (.one (.d (.int .i64) r)), []⟩) := by
  kernel_rfl
theorem transomref04_Check.s0_ev {g51 : G_transomref02_Canon} {g52 : G_transomref01_Valid} {s0 : S_transomref04_Check_0} {s1 : S_transomref04_Check_1} {s2 : S_transomref04_Check_2} {s3 : S_transomref04_Check_3} {s4 : S_transomref04_Check_4} {s5 : S_transomref04_Check_5} {x0 : Bool} {x1 : Int} {x2 : Int} {x3 : Int} {x4 : ByteArray} : evAt (env_transomref04_Check g51 g52 s0 s1 s2 s3 s4 s5) [1, 1] [1, 3] [.v (.one (.ptr 0 0)), .v (.one (.d .bool x0))] [some (.box [(.d (.int .i64) x1), (.d (.int .i64) x2), (.d (.int .u64) x3), (.d .str x4)])] some = transomref04_Check.s0c g51 g52 s0 s1 s2 s3 s4 s5 x0 x1 x2 x3 x4 (fun r => some ⟨.v (.one (.d (.int .i64) r)), []⟩) := by
  kernel_rfl
theorem transomref04_Check.s1_ev {g51 : G_transomref02_Canon} {g52 : G_transomref01_Valid} {s0 : S_transomref04_Check_0} {s1 : S_transomref04_Check_1} {s2 : S_transomref04_Check_2} {s3 : S_transomref04_Check_3} {s4 : S_transomref04_Check_4} {s5 : S_transomref04_Check_5} {x0 : Bool} {x1 : Bool} {x2 : Int} {x3 : Int} {x4 : Int} {x5 : ByteArray} : evAt (env_transomref04_Check g51 g52 s0 s1 s2 s3 s4 s5) [1, 1, 1] [1, 3, 4] [.v (.one (.ptr 0 0)), .v (.one (.d .bool x0)), .v (.one (.d .bool x1))] [some (.box [(.d (.int .i64) x2), (.d (.int .i64) x3), (.d (.int .u64) x4), (.d .str x5)])] some = transomref04_Check.s1c g51 g52 s0 s1 s2 s3 s4 s5 x0 x1 x2 x3 x4 x5 (fun r => some ⟨.v (.one (.d (.int .i64) r)), []⟩) := by
  kernel_rfl
theorem transomref04_Check.s2_ev {g51 : G_transomref02_Canon} {g52 : G_transomref01_Valid} {s0 : S_transomref04_Check_0} {s1 : S_transomref04_Check_1} {s2 : S_transomref04_Check_2} {s3 : S_transomref04_Check_3} {s4 : S_transomref04_Check_4} {s5 : S_transomref04_Check_5} {x0 : Bool} {x1 : Bool} {x2 : Bool} {x3 : Int} {x4 : Int} {x5 : Int} {x6 : ByteArray} : evAt (env_transomref04_Check g51 g52 s0 s1 s2 s3 s4 s5) [1, 4, 0, 1, 1, 1] [1, 3, 4, 21] [.v (.one (.ptr 0 0)), .v (.one (.d .bool x0)), .v (.one (.d .bool x1)), .v (.one (.d .bool x2))] [some (.box [(.d (.int .i64) x3), (.d (.int .i64) x4), (.d (.int .u64) x5), (.d .str x6)])] some = transomref04_Check.s2c g51 g52 s0 s1 s2 s3 s4 s5 x0 x1 x2 x3 x4 x5 x6 (fun r => some ⟨.v (.one (.d (.int .i64) r)), []⟩) := by
  kernel_rfl
theorem transomref04_Check.s3_ev {g51 : G_transomref02_Canon} {g52 : G_transomref01_Valid} {s0 : S_transomref04_Check_0} {s1 : S_transomref04_Check_1} {s2 : S_transomref04_Check_2} {s3 : S_transomref04_Check_3} {s4 : S_transomref04_Check_4} {s5 : S_transomref04_Check_5} {x0 : Bool} {x1 : Int} {x2 : Int} {x3 : Int} {x4 : ByteArray} : evAt (env_transomref04_Check g51 g52 s0 s1 s2 s3 s4 s5) [1, 3, 1, 4, 0, 1, 1, 1] [1, 30] [.v (.one (.ptr 0 0)), .v (.one (.d .bool x0))] [some (.box [(.d (.int .i64) x1), (.d (.int .i64) x2), (.d (.int .u64) x3), (.d .str x4)])] some = transomref04_Check.s3c g51 g52 s0 s1 s2 s3 s4 s5 x0 x1 x2 x3 x4 (fun r => some ⟨.v (.one (.d (.int .i64) r)), []⟩) := by
  kernel_rfl
theorem transomref04_Check.s4_ev {g51 : G_transomref02_Canon} {g52 : G_transomref01_Valid} {s0 : S_transomref04_Check_0} {s1 : S_transomref04_Check_1} {s2 : S_transomref04_Check_2} {s3 : S_transomref04_Check_3} {s4 : S_transomref04_Check_4} {s5 : S_transomref04_Check_5} {x0 : Bool} {x1 : Int} {x2 : Int} {x3 : Int} {x4 : ByteArray} : evAt (env_transomref04_Check g51 g52 s0 s1 s2 s3 s4 s5) [1, 3, 1, 3, 1, 4, 0, 1, 1, 1] [1, 57] [.v (.one (.ptr 0 0)), .v (.one (.d .bool x0))] [some (.box [(.d (.int .i64) x1), (.d (.int .i64) x2), (.d (.int .u64) x3), (.d .str x4)])] some = transomref04_Check.s4c g51 g52 s0 s1 s2 s3 s4 s5 x0 x1 x2 x3 x4 (fun r => some ⟨.v (.one (.d (.int .i64) r)), []⟩) := by
  kernel_rfl
theorem transomref04_Check.s5_ev {g51 : G_transomref02_Canon} {g52 : G_transomref01_Valid} {s0 : S_transomref04_Check_0} {s1 : S_transomref04_Check_1} {s2 : S_transomref04_Check_2} {s3 : S_transomref04_Check_3} {s4 : S_transomref04_Check_4} {s5 : S_transomref04_Check_5} {x0 : Bool} {x1 : Int} {x2 : Int} {x3 : Int} {x4 : ByteArray} : evAt (env_transomref04_Check g51 g52 s0 s1 s2 s3 s4 s5) [1, 3, 1, 3, 1, 3, 1, 4, 0, 1, 1, 1] [1, 71] [.v (.one (.ptr 0 0)), .v (.one (.d .bool x0))] [some (.box [(.d (.int .i64) x1), (.d (.int .i64) x2), (.d (.int .u64) x3), (.d .str x4)])] some = transomref04_Check.s5c g51 g52 s0 s1 s2 s3 s4 s5 x0 x1 x2 x3 x4 (fun r => some ⟨.v (.one (.d (.int .i64) r)), []⟩) := by
  kernel_rfl
mutual
def transomref04_Check.s0 : Nat → Bool → Int → Int → Int → ByteArray → Option Int
  | 0, _, _, _, _, _ => none
  | k + 1, x0, x1, x2, x3, x4 => transomref04_Check.s0c (transomref02_Canon.f k) (transomref01_Valid.f k) (transomref04_Check.s0 k) (transomref04_Check.s1 k) (transomref04_Check.s2 k) (transomref04_Check.s3 k) (transomref04_Check.s4 k) (transomref04_Check.s5 k) x0 x1 x2 x3 x4 some
def transomref04_Check.s1 : Nat → Bool → Bool → Int → Int → Int → ByteArray → Option Int
  | 0, _, _, _, _, _, _ => none
  | k + 1, x0, x1, x2, x3, x4, x5 => transomref04_Check.s1c (transomref02_Canon.f k) (transomref01_Valid.f k) (transomref04_Check.s0 k) (transomref04_Check.s1 k) (transomref04_Check.s2 k) (transomref04_Check.s3 k) (transomref04_Check.s4 k) (transomref04_Check.s5 k) x0 x1 x2 x3 x4 x5 some
def transomref04_Check.s2 : Nat → Bool → Bool → Bool → Int → Int → Int → ByteArray → Option Int
  | 0, _, _, _, _, _, _, _ => none
  | k + 1, x0, x1, x2, x3, x4, x5, x6 => transomref04_Check.s2c (transomref02_Canon.f k) (transomref01_Valid.f k) (transomref04_Check.s0 k) (transomref04_Check.s1 k) (transomref04_Check.s2 k) (transomref04_Check.s3 k) (transomref04_Check.s4 k) (transomref04_Check.s5 k) x0 x1 x2 x3 x4 x5 x6 some
def transomref04_Check.s3 : Nat → Bool → Int → Int → Int → ByteArray → Option Int
  | 0, _, _, _, _, _ => none
  | k + 1, x0, x1, x2, x3, x4 => transomref04_Check.s3c (transomref02_Canon.f k) (transomref01_Valid.f k) (transomref04_Check.s0 k) (transomref04_Check.s1 k) (transomref04_Check.s2 k) (transomref04_Check.s3 k) (transomref04_Check.s4 k) (transomref04_Check.s5 k) x0 x1 x2 x3 x4 some
def transomref04_Check.s4 : Nat → Bool → Int → Int → Int → ByteArray → Option Int
  | 0, _, _, _, _, _ => none
  | k + 1, x0, x1, x2, x3, x4 => transomref04_Check.s4c (transomref02_Canon.f k) (transomref01_Valid.f k) (transomref04_Check.s0 k) (transomref04_Check.s1 k) (transomref04_Check.s2 k) (transomref04_Check.s3 k) (transomref04_Check.s4 k) (transomref04_Check.s5 k) x0 x1 x2 x3 x4 some
def transomref04_Check.s5 : Nat → Bool → Int → Int → Int → ByteArray → Option Int
  | 0, _, _, _, _, _ => none
  | k + 1, x0, x1, x2, x3, x4 => transomref04_Check.s5c (transomref02_Canon.f k) (transomref01_Valid.f k) (transomref04_Check.s0 k) (transomref04_Check.s1 k) (transomref04_Check.s2 k) (transomref04_Check.s3 k) (transomref04_Check.s4 k) (transomref04_Check.s5 k) x0 x1 x2 x3 x4 some
end
def transomref04_Check.f (k : Nat) (a0 : Int) (a1 : Int) (a2 : Int) (a3 : ByteArray) : Option Int := transomref04_Check.c (transomref02_Canon.f k) (transomref01_Valid.f k) (transomref04_Check.s0 k) (transomref04_Check.s1 k) (transomref04_Check.s2 k) (transomref04_Check.s3 k) (transomref04_Check.s4 k) (transomref04_Check.s5 k) a0 a1 a2 a3 some
theorem transomref04_Check.is {g51 : G_transomref02_Canon} {g52 : G_transomref01_Valid} {s0 : S_transomref04_Check_0} {s1 : S_transomref04_Check_1} {s2 : S_transomref04_Check_2} {s3 : S_transomref04_Check_3} {s4 : S_transomref04_Check_4} {s5 : S_transomref04_Check_5} : FnIs (env_transomref04_Check g51 g52 s0 s1 s2 s3 s4 s5) 28 Go.Proofs.Tryd.f28 := ⟨Go.Proofs.Tryd.func28, rfl, rfl, rfl, by decide⟩
theorem transomref04_Check.envok {g51 : G_transomref02_Canon} {g52 : G_transomref01_Valid} {s0 : S_transomref04_Check_0} {s1 : S_transomref04_Check_1} {s2 : S_transomref04_Check_2} {s3 : S_transomref04_Check_3} {s4 : S_transomref04_Check_4} {s5 : S_transomref04_Check_5} (h51 : CtOK Go.Proofs.Tryd.prog 51 (ct_transomref02_Canon g51)) (h52 : CtOK Go.Proofs.Tryd.prog 52 (ct_transomref01_Valid g52)) : EnvOK (env_transomref04_Check g51 g52 s0 s1 s2 s3 s4 s5).toEnv := by
  intro f c h
  simp only [env_transomref04_Check] at h
  split at h
  · rename_i e; subst e; cases h; exact h51
  split at h
  · rename_i e; subst e; cases h; exact h52
  simp at h
noncomputable abbrev transomref04_Check.E (k : Nat) : FEnv := env_transomref04_Check (transomref02_Canon.f k) (transomref01_Valid.f k) (transomref04_Check.s0 k) (transomref04_Check.s1 k) (transomref04_Check.s2 k) (transomref04_Check.s3 k) (transomref04_Check.s4 k) (transomref04_Check.s5 k)
theorem transomref04_Check.hE (k : Nat) : EnvOK (transomref04_Check.E k).toEnv := transomref04_Check.envok (transomref02_Canon.ok k) (transomref01_Valid.ok k)
theorem transomref04_Check.segs_ok : ∀ k, ∀ s ∈ (transomref04_Check.E k).segs, SegOK (transomref04_Check.E k) Go.Proofs.Tryd.f28 s
  | 0 => by
    intro s hs
    simp only [transomref04_Check.E, env_transomref04_Check, List.mem_cons, List.not_mem_nil, or_false] at hs
    rcases hs with rfl | rfl | rfl | rfl | rfl | rfl
    · intro tvs blks res h; exfalso; simp only [seg_transomref04_Check_0] at h; split at h <;> simp [transomref04_Check.s0] at h
    · intro tvs blks res h; exfalso; simp only [seg_transomref04_Check_1] at h; split at h <;> simp [transomref04_Check.s1] at h
    · intro tvs blks res h; exfalso; simp only [seg_transomref04_Check_2] at h; split at h <;> simp [transomref04_Check.s2] at h
    · intro tvs blks res h; exfalso; simp only [seg_transomref04_Check_3] at h; split at h <;> simp [transomref04_Check.s3] at h
    · intro tvs blks res h; exfalso; simp only [seg_transomref04_Check_4] at h; split at h <;> simp [transomref04_Check.s4] at h
    · intro tvs blks res h; exfalso; simp only [seg_transomref04_Check_5] at h; split at h <;> simp [transomref04_Check.s5] at h
  | k + 1 => by
    intro s hs
    simp only [transomref04_Check.E, env_transomref04_Check, List.mem_cons, List.not_mem_nil, or_false] at hs
    rcases hs with rfl | rfl | rfl | rfl | rfl | rfl
    · refine seg_of_ev (E := transomref04_Check.E k) (transomref04_Check.hE k) ⟨transomref04_Check.is.rvs⟩ (transomref04_Check.segs_ok k) ?_
      intro tvs blks res h
      simp only [seg_transomref04_Check_0] at h
      split at h
      · exact (transomref04_Check.s0_ev.trans transomref04_Check.s0c_bind).trans h
      · simp at h
    · refine seg_of_ev (E := transomref04_Check.E k) (transomref04_Check.hE k) ⟨transomref04_Check.is.rvs⟩ (transomref04_Check.segs_ok k) ?_
      intro tvs blks res h
      simp only [seg_transomref04_Check_1] at h
      split at h
      · exact (transomref04_Check.s1_ev.trans transomref04_Check.s1c_bind).trans h
      · simp at h
    · refine seg_of_ev (E := transomref04_Check.E k) (transomref04_Check.hE k) ⟨transomref04_Check.is.rvs⟩ (transomref04_Check.segs_ok k) ?_
      intro tvs blks res h
      simp only [seg_transomref04_Check_2] at h
      split at h
      · exact (transomref04_Check.s2_ev.trans transomref04_Check.s2c_bind).trans h
      · simp at h
    · refine seg_of_ev (E := transomref04_Check.E k) (transomref04_Check.hE k) ⟨transomref04_Check.is.rvs⟩ (transomref04_Check.segs_ok k) ?_
      intro tvs blks res h
      simp only [seg_transomref04_Check_3] at h
      split at h
      · exact (transomref04_Check.s3_ev.trans transomref04_Check.s3c_bind).trans h
      · simp at h
    · refine seg_of_ev (E := transomref04_Check.E k) (transomref04_Check.hE k) ⟨transomref04_Check.is.rvs⟩ (transomref04_Check.segs_ok k) ?_
      intro tvs blks res h
      simp only [seg_transomref04_Check_4] at h
      split at h
      · exact (transomref04_Check.s4_ev.trans transomref04_Check.s4c_bind).trans h
      · simp at h
    · refine seg_of_ev (E := transomref04_Check.E k) (transomref04_Check.hE k) ⟨transomref04_Check.is.rvs⟩ (transomref04_Check.segs_ok k) ?_
      intro tvs blks res h
      simp only [seg_transomref04_Check_5] at h
      split at h
      · exact (transomref04_Check.s5_ev.trans transomref04_Check.s5c_bind).trans h
      · simp at h
theorem transomref04_Check.ok (k : Nat) : CtOK Go.Proofs.Tryd.prog 28 (ct_transomref04_Check (transomref04_Check.f k)) := by
  refine ct_of_ev (E := transomref04_Check.E k) transomref04_Check.is (transomref04_Check.hE k) (transomref04_Check.segs_ok k) rfl ?_
  intro tvs blks res h
  simp only [ct_transomref04_Check] at h
  split at h
  · exact (transomref04_Check.ev.trans transomref04_Check.c_bind).trans h
  · simp at h

/-! ### transomref09_CheckCol: function 9 -/
abbrev G_transomref09_CheckCol : Type := ByteArray → Int → Bool → Int → Int → Int → ByteArray → Option Int
def ct_transomref09_CheckCol (g : G_transomref09_CheckCol) : Ct where
  nin := 0
  mv := []
  F := fun tvs blks {β} K => match tvs, blks with
    | [.v (.agg [(.d .str a0), (.d (.int .i64) a1), (.d .bool a2), (.d (.int .i64) a3), (.d (.int .i64) a4), (.d (.int .u64) a5), (.d .str a6)])], [] => (g a0 a1 a2 a3 a4 a5 a6).bind fun r => K ⟨.v (.one (.d (.int .i64) r)), []⟩
    | _, _ => none
  legit := fun tvs blks K r h => by
    split at h
    · obtain ⟨x, hx, hk⟩ := Option.bind_eq_some_iff.1 h
      refine ⟨_, ?_, hk⟩
      simp only [hx, Option.bind_some]
    · simp at h
abbrev S_transomref09_CheckCol_0 : Type := Bool → ByteArray → Int → Bool → Int → Int → Int → ByteArray → Option Int
abbrev S_transomref09_CheckCol_1 : Type := ByteArray → Int → Bool → Int → Int → Int → ByteArray → Option Int
def seg_transomref09_CheckCol_0 (g : S_transomref09_CheckCol_0) : Seg where
  path := [1, 0, 1, 1]
  prep := []
  keep := [1, 18]
  F := fun tvs blks {β} K => match tvs, blks with
    | [.v (.one (.ptr 0 0)), .v (.one (.d .bool x0))], [some (.box [(.d .str x1), (.d (.int .i64) x2), (.d .bool x3), (.d (.int .i64) x4), (.d (.int .i64) x5), (.d (.int .u64) x6), (.d .str x7)])] => (g x0 x1 x2 x3 x4 x5 x6 x7).bind fun r => K ⟨.v (.one (.d (.int .i64) r)), []⟩
    | _, _ => none
  legit := fun tvs blks K r h => by
    split at h
    · obtain ⟨x, hx, hk⟩ := Option.bind_eq_some_iff.1 h
      refine ⟨_, ?_, hk⟩
      simp only [hx, Option.bind_some]
    · simp at h
def seg_transomref09_CheckCol_1 (g : S_transomref09_CheckCol_1) : Seg where
  path := [1, 1, 1]
  prep := []
  keep := [1]
  F := fun tvs blks {β} K => match tvs, blks with
    | [.v (.one (.ptr 0 0))], [some (.box [(.d .str x0), (.d (.int .i64) x1), (.d .bool x2), (.d (.int .i64) x3), (.d (.int .i64) x4), (.d (.int .u64) x5), (.d .str x6)])] => (g x0 x1 x2 x3 x4 x5 x6).bind fun r => K ⟨.v (.one (.d (.int .i64) r)), []⟩
    | _, _ => none
  legit := fun tvs blks K r h => by
    split at h
    · obtain ⟨x, hx, hk⟩ := Option.bind_eq_some_iff.1 h
      refine ⟨_, ?_, hk⟩
      simp only [hx, Option.bind_some]
    · simp at h
noncomputable def env_transomref09_CheckCol (g27 : G_transomref08_Check) (g28 : G_transomref04_Check) (s0 : S_transomref09_CheckCol_0) (s1 : S_transomref09_CheckCol_1) : FEnv := { P := Go.Proofs.Tryd.prog, ct := fun m => if m = 27 then some (ct_transomref08_Check g27) else if m = 28 then some (ct_transomref04_Check g28) else none, N := 37, body := Go.Proofs.Tryd.f9.body.getD .skip, rvs := [.tmp 2], rts := [3], nin := 0, rmv := [], segs := [seg_transomref09_CheckCol_0 s0, seg_transomref09_CheckCol_1 s1] }
def transomref09_CheckCol.c {β : Type} (g27 : G_transomref08_Check) (g28 : G_transomref04_Check) (s0 : S_transomref09_CheckCol_0) (s1 : S_transomref09_CheckCol_1) (a0 : ByteArray) (a1 : Int) (a2 : Bool) (a3 : Int) (a4 : Int) (a5 : Int) (a6 : ByteArray) (ret : Int → Option β) : Option β := ((g27 a0).bind fun r0 => (bif (r0 != (0 : Int)) then (ret (r0)) else (bif (decide (a1 < (1 : Int))) then ((s0 true a0 a1 a2 a3 a4 a5 a6).bind ret) else ((s0 (decide (a1 > (5 : Int))) a0 a1 a2 a3 a4 a5 a6).bind ret))))
def transomref09_CheckCol.s0c {β : Type} (g27 : G_transomref08_Check) (g28 : G_transomref04_Check) (s0 : S_transomref09_CheckCol_0) (s1 : S_transomref09_CheckCol_1) (x0 : Bool) (x1 : ByteArray) (x2 : Int) (x3 : Bool) (x4 : Int) (x5 : Int) (x6 : Int) (x7 : ByteArray) (ret : Int → Option β) : Option β := (bif x0 then (ret ((5 : Int))) else ((s1 x1 x2 x3 x4 x5 x6 x7).bind ret))
def transomref09_CheckCol.s1c {β : Type} (g27 : G_transomref08_Check) (g28 : G_transomref04_Check) (s0 : S_transomref09_CheckCol_0) (s1 : S_transomref09_CheckCol_1) (x0 : ByteArray) (x1 : Int) (x2 : Bool) (x3 : Int) (x4 : Int) (x5 : Int) (x6 : ByteArray) (ret : Int → Option β) : Option β := ((g28 x3 x4 x5 x6).bind fun r0 => (bif (r0 != (0 : Int)) then (ret (r0)) else (bif (x3 != (0 : Int)) then (bif (x3 != x1) then (ret ((11 : Int))) else (ret ((0 : Int)))) else (ret ((0 : Int))))))
theorem transomref09_CheckCol.c_bind {β : Type} {g27 : G_transomref08_Check} {g28 : G_transomref04_Check} {s0 : S_transomref09_CheckCol_0} {s1 : S_transomref09_CheckCol_1} {a0 : ByteArray} {a1 : Int} {a2 : Bool} {a3 : Int} {a4 : Int} {a5 : Int} {a6 : ByteArray} {ret : Int → Option β} : transomref09_CheckCol.c g27 g28 s0 s1 a0 a1 a2 a3 a4 a5 a6 ret = (transomref09_CheckCol.c g27 g28 s0 s1 a0 a1 a2 a3 a4 a5 a6 some).bind ret := by
  simp only [transomref09_CheckCol.c, bif_bind, sum_bind, Option.bind_assoc, Option.bind_some, Option.bind_none, Option.bind_fun_some]
theorem transomref09_CheckCol.s0c_bind {β : Type} {g27 : G_transomref08_Check} {g28 : G_transomref04_Check} {s0 : S_transomref09_CheckCol_0} {s1 : S_transomref09_CheckCol_1} {x0 : Bool} {x1 : ByteArray} {x2 : Int} {x3 : Bool} {x4 : Int} {x5 : Int} {x6 : Int} {x7 : ByteArray} {ret : Int → Option β} : transomref09_CheckCol.s0c g27 g28 s0 s1 x0 x1 x2 x3 x4 x5 x6 x7 ret = (transomref09_CheckCol.s0c g27 g28 s0 s1 x0 x1 x2 x3 x4 x5 x6 x7 some).bind ret := by
  simp only [transomref09_CheckCol.s0c, bif_bind, sum_bind, Option.bind_assoc, Option.bind_some, Option.bind_none, Option.bind_fun_some]
theorem transomref09_CheckCol.s1c_bind {β : Type} {g27 : G_transomref08_Check} {g28 : G_transomref04_Check} {s0 : S_transomref09_CheckCol_0} {s1 : S_transomref09_CheckCol_1} {x0 : ByteArray} {x1 : Int} {x2 : Bool} {x3 : Int} {x4 : Int} {x5 : Int} {x6 : ByteArray} {ret : Int → Option β} : transomref09_CheckCol.s1c g27 g28 s0 s1 x0 x1 x2 x3 x4 x5 x6 ret = (transomref09_CheckCol.s1c g27 g28 s0 s1 x0 x1 x2 x3 x4 x5 x6 some).bind ret := by
  simp only [transomref09_CheckCol.s1c, bif_bind, sum_bind, Option.bind_assoc, Option.bind_some, Option.bind_none, Option.bind_fun_some]
theorem transomref09_CheckCol.ev {g27 : G_transomref08_Check} {g28 : G_transomref04_Check} {s0 : S_transomref09_CheckCol_0} {s1 : S_transomref09_CheckCol_1} {a0 : ByteArray} {a1 : Int} {a2 : Bool} {a3 : Int} {a4 : Int} {a5 : Int} {a6 : ByteArray} : evAt (env_transomref09_CheckCol g27 g28 s0 s1) [] [0] [.v (.agg [(.d .str a0), (.d (.int .i64) a1), (.d .bool a2), (.d (.int .i64) a3), (.d (.int .i64) a4), (.d (.int .u64) a5), (.d .str a6)])] [] some = transomref09_CheckCol.c g27 g28 s0 s1 a0 a1 a2 a3 a4 a5 a6 (fun r => some ⟨.v (.one (.d (.int .i64) r)), []⟩) := by
  kernel_rfl
theorem transomref09_CheckCol.s0_ev {g27 : G_transomref08_Check} {g28 : G_transomref04_Check} {s0 : S_transomref09_CheckCol_0} {s1 : S_transomref09_CheckCol_1} {x0 : Bool} {x1 : ByteArray} {x2 : Int} {x3 : Bool} {x4 : Int} {x5 : Int} {x6 : Int} {x7 : ByteArray} : evAt (env_transomref09_CheckCol g27 g28 s0 s1) [1, 0, 1, 1] [1, 18] [.v (.one (.ptr 0 0)), .v (.one (.d .bool x0))] [some (.box [(.d .str x1), (.d (.int .i64) x2), (.d .bool x3), (.d (.int .i64) x4), (.d (.int .i64) x5), (.d (.int .u64) x6), (.d .str x7)])] some = transomref09_CheckCol.s0c g27 g28 s0 s1 x0 x1 x2 x3 x4 x5 x6 x7 (fun r => some ⟨.v (.one (.d (.int .i64) r)), []⟩) := by
  kernel_rfl
theorem transomref09_CheckCol.s1_ev {g27 : G_transomref08_Check} {g28 : G_transomref04_Check} {s0 : S_transomref09_CheckCol_0} {s1 : S_transomref09_CheckCol_1} {x0 : ByteArray} {x1 : Int} {x2 : Bool} {x3 : Int} {x4 : Int} {x5 : Int} {x6 : ByteArray} : evAt (env_transomref09_CheckCol g27 g28 s0 s1) [1, 1, 1] [1] [.v (.one (.ptr 0 0))] [some (.box [(.d .str x0), (.d (.int .i64) x1), (.d .bool x2), (.d (.int .i64) x3), (.d (.int .i64) x4), (.d (.int .u64) x5), (.d .str x6)])] some = transomref09_CheckCol.s1c g27 g28 s0 s1 x0 x1 x2 x3 x4 x5 x6 (fun r => some ⟨.v (.one (.d (.int .i64) r)), []⟩) := by
  kernel_rfl
mutual
def transomref09_CheckCol.s0 : Nat → Bool → ByteArray → Int → Bool → Int → Int → Int → ByteArray → Option Int
  | 0, _, _, _, _, _, _, _, _ => none
  | k + 1, x0, x1, x2, x3, x4, x5, x6, x7 => transomref09_CheckCol.s0c (transomref08_Check.f k) (transomref04_Check.f k) (transomref09_CheckCol.s0 k) (transomref09_CheckCol.s1 k) x0 x1 x2 x3 x4 x5 x6 x7 some
def transomref09_CheckCol.s1 : Nat → ByteArray → Int → Bool → Int → Int → Int → ByteArray → Option Int
  | 0, _, _, _, _, _, _, _ => none
  | k + 1, x0, x1, x2, x3, x4, x5, x6 => transomref09_CheckCol.s1c (transomref08_Check.f k) (transomref04_Check.f k) (transomref09_CheckCol.s0 k) (transomref09_CheckCol.s1 k) x0 x1 x2 x3 x4 x5 x6 some
end
def transomref09_CheckCol.f (k : Nat) (a0 : ByteArray) (a1 : Int) (a2 : Bool) (a3 : Int) (a4 : Int) (a5 : Int) (a6 : ByteArray) : Option Int := transomref09_CheckCol.c (transomref08_Check.f k) (transomref04_Check.f k) (transomref09_CheckCol.s0 k) (transomref09_CheckCol.s1 k) a0 a1 a2 a3 a4 a5 a6 some
theorem transomref09_CheckCol.is {g27 : G_transomref08_Check} {g28 : G_transomref04_Check} {s0 : S_transomref09_CheckCol_0} {s1 : S_transomref09_CheckCol_1} : FnIs (env_transomref09_CheckCol g27 g28 s0 s1) 9 Go.Proofs.Tryd.f9 := ⟨Go.Proofs.Tryd.func9, rfl, rfl, rfl, by decide⟩
theorem transomref09_CheckCol.envok {g27 : G_transomref08_Check} {g28 : G_transomref04_Check} {s0 : S_transomref09_CheckCol_0} {s1 : S_transomref09_CheckCol_1} (h27 : CtOK Go.Proofs.Tryd.prog 27 (ct_transomref08_Check g27)) (h28 : CtOK Go.Proofs.Tryd.prog 28 (ct_transomref04_Check g28)) : EnvOK (env_transomref09_CheckCol g27 g28 s0 s1).toEnv := by
  intro f c h
  simp only [env_transomref09_CheckCol] at h
  split at h
  · rename_i e; subst e; cases h; exact h27
  split at h
  · rename_i e; subst e; cases h; exact h28
  simp at h
noncomputable abbrev transomref09_CheckCol.E (k : Nat) : FEnv := env_transomref09_CheckCol (transomref08_Check.f k) (transomref04_Check.f k) (transomref09_CheckCol.s0 k) (transomref09_CheckCol.s1 k)
theorem transomref09_CheckCol.hE (k : Nat) : EnvOK (transomref09_CheckCol.E k).toEnv := transomref09_CheckCol.envok (transomref08_Check.ok k) (transomref04_Check.ok k)
theorem transomref09_CheckCol.segs_ok : ∀ k, ∀ s ∈ (transomref09_CheckCol.E k).segs, SegOK (transomref09_CheckCol.E k) Go.Proofs.Tryd.f9 s
  | 0 => by
    intro s hs
    simp only [transomref09_CheckCol.E, env_transomref09_CheckCol, List.mem_cons, List.not_mem_nil, or_false] at hs
    rcases hs with rfl | rfl
    · intro tvs blks res h; exfalso; simp only [seg_transomref09_CheckCol_0] at h; split at h <;> simp [transomref09_CheckCol.s0] at h
    · intro tvs blks res h; exfalso; simp only [seg_transomref09_CheckCol_1] at h; split at h <;> simp [transomref09_CheckCol.s1] at h
  | k + 1 => by
    intro s hs
    simp only [transomref09_CheckCol.E, env_transomref09_CheckCol, List.mem_cons, List.not_mem_nil, or_false] at hs
    rcases hs with rfl | rfl
    · refine seg_of_ev (E := transomref09_CheckCol.E k) (transomref09_CheckCol.hE k) ⟨transomref09_CheckCol.is.rvs⟩ (transomref09_CheckCol.segs_ok k) ?_
      intro tvs blks res h
      simp only [seg_transomref09_CheckCol_0] at h
      split at h
      · exact (transomref09_CheckCol.s0_ev.trans transomref09_CheckCol.s0c_bind).trans h
      · simp at h
    · refine seg_of_ev (E := transomref09_CheckCol.E k) (transomref09_CheckCol.hE k) ⟨transomref09_CheckCol.is.rvs⟩ (transomref09_CheckCol.segs_ok k) ?_
      intro tvs blks res h
      simp only [seg_transomref09_CheckCol_1] at h
      split at h
      · exact (transomref09_CheckCol.s1_ev.trans transomref09_CheckCol.s1c_bind).trans h
      · simp at h
theorem transomref09_CheckCol.ok (k : Nat) : CtOK Go.Proofs.Tryd.prog 9 (ct_transomref09_CheckCol (transomref09_CheckCol.f k)) := by
  refine ct_of_ev (E := transomref09_CheckCol.E k) transomref09_CheckCol.is (transomref09_CheckCol.hE k) (transomref09_CheckCol.segs_ok k) rfl ?_
  intro tvs blks res h
  simp only [ct_transomref09_CheckCol] at h
  split at h
  · exact (transomref09_CheckCol.ev.trans transomref09_CheckCol.c_bind).trans h
  · simp at h

/-! ### transomref08_Find: function 34 -/
abbrev G_transomref08_Find : Type := (List ByteArray) → ByteArray → Option Int
def ct_transomref08_Find (g : G_transomref08_Find) : Ct where
  nin := 0
  mv := []
  F := fun tvs blks {β} K => match tvs, blks with
    | [.v (.one (.d (.sl .str) a0)), .v (.one (.d .str a1))], [] => (g a0 a1).bind fun r => K ⟨.v (.one (.d (.int .i64) r)), []⟩
    | _, _ => none
  legit := fun tvs blks K r h => by
    split at h
    · obtain ⟨x, hx, hk⟩ := Option.bind_eq_some_iff.1 h
      refine ⟨_, ?_, hk⟩
      simp only [hx, Option.bind_some]
    · simp at h
abbrev S_transomref08_Find_0 : Type := (List ByteArray) → ByteArray → Int → Option Int
def seg_transomref08_Find_0 (g : S_transomref08_Find_0) : Seg where
  path := [4, 1, 0, 1]
  prep := []
  keep := [0, 1, 5]
  F := fun tvs blks {β} K => match tvs, blks with
    | [.v (.one (.d (.sl .str) x0)), .v (.one (.d .str x1)), .v (.one (.d (.int .i64) x2))], [] => (g x0 x1 x2).bind fun r => K ⟨.v (.one (.d (.int .i64) r)), []⟩
    | _, _ => none
  legit := fun tvs blks K r h => by
    split at h
    · obtain ⟨x, hx, hk⟩ := Option.bind_eq_some_iff.1 h
      refine ⟨_, ?_, hk⟩
      simp only [hx, Option.bind_some]
    · simp at h
noncomputable def env_transomref08_Find  (s0 : S_transomref08_Find_0) : FEnv := { P := Go.Proofs.Tryd.prog, ct := fun m => none, N := 19, body := Go.Proofs.Tryd.f34.body.getD .skip, rvs := [.tmp 4], rts := [3], nin := 0, rmv := [], segs := [seg_transomref08_Find_0 s0] }
def transomref08_Find.c {β : Type}  (s0 : S_transomref08_Find_0) (a0 : List ByteArray) (a1 : ByteArray) (ret : Int → Option β) : Option β := ((s0 a0 a1 (0 : Int)).bind ret)
def transomref08_Find.s0c {β : Type}  (s0 : S_transomref08_Find_0) (x0 : List ByteArray) (x1 : ByteArray) (x2 : Int) (ret : Int → Option β) : Option β := (bif (decide (x2 < ((List.length x0) : Int))) then (bif ((decide ((0 : Int) ≤ x2)) && (decide (x2 < ((List.length x0) : Int)))) then (bif ((ByteArray.toList (elem Ty.str x0 x2)) == (ByteArray.toList x1)) then (ret (x2)) else ((s0 x0 x1 (IntKind.wrap IntKind.i64 (x2 + (1 : Int)))).bind ret)) else none) else (ret ((-1 : Int))))
theorem transomref08_Find.c_bind {β : Type}  {s0 : S_transomref08_Find_0} {a0 : List ByteArray} {a1 : ByteArray} {ret : Int → Option β} : transomref08_Find.c  s0 a0 a1 ret = (transomref08_Find.c  s0 a0 a1 some).bind ret := by
  simp only [transomref08_Find.c, bif_bind, sum_bind, Option.bind_assoc, Option.bind_some, Option.bind_none, Option.bind_fun_some]
theorem transomref08_Find.s0c_bind {β : Type}  {s0 : S_transomref08_Find_0} {x0 : List ByteArray} {x1 : ByteArray} {x2 : Int} {ret : Int → Option β} : transomref08_Find.s0c  s0 x0 x1 x2 ret = (transomref08_Find.s0c  s0 x0 x1 x2 some).bind ret := by
  simp only [transomref08_Find.s0c, bif_bind, sum_bind, Option.bind_assoc, Option.bind_some, Option.bind_none, Option.bind_fun_some]
theorem transomref08_Find.ev  {s0 : S_transomref08_Find_0} {a0 : List ByteArray} {a1 : ByteArray} : evAt (env_transomref08_Find  s0) [] [0, 1] [.v (.one (.d (.sl .str) a0)), .v (.one (.d .str a1))] [] some = transomref08_Find.c  s0 a0 a1 (fun r => some ⟨.v (.one (.d (.int .i64) r)), []⟩) := by
  kernel_rfl
theorem transomref08_Find.s0_ev  {s0 : S_transomref08_Find_0} {x0 : List ByteArray} {x1 : ByteArray} {x2 : Int} : evAt (env_transomref08_Find  s0) [4, 1, 0, 1] [0, 1, 5] [.v (.one (.d (.sl .str) x0)), .v (.one (.d .str x1)), .v (.one (.d (.int .i64) x2))] [] some = transomref08_Find.s0c  s0 x0 x1 x2 (fun r => some ⟨.v (.one (.d (.int .i64) r)), []⟩) := by
  kernel_rfl
def transomref08_Find.s0 : Nat → (List ByteArray) → ByteArray → Int → Option Int
  | 0, _, _, _ => none
  | k + 1, x0, x1, x2 => transomref08_Find.s0c  (transomref08_Find.s0 k) x0 x1 x2 some
def transomref08_Find.f (k : Nat) (a0 : List ByteArray) (a1 : ByteArray) : Option Int := transomref08_Find.c  (transomref08_Find.s0 k) a0 a1 some
theorem transomref08_Find.is  {s0 : S_transomref08_Find_0} : FnIs (env_transomref08_Find  s0) 34 Go.Proofs.Tryd.f34 := ⟨Go.Proofs.Tryd.func34, rfl, rfl, rfl, by decide⟩
theorem transomref08_Find.envok  {s0 : S_transomref08_Find_0}  : EnvOK (env_transomref08_Find  s0).toEnv := by
  intro f c h
  simp only [env_transomref08_Find] at h
  simp at h
noncomputable abbrev transomref08_Find.E (k : Nat) : FEnv := env_transomref08_Find  (transomref08_Find.s0 k)
theorem transomref08_Find.hE (k : Nat) : EnvOK (transomref08_Find.E k).toEnv := transomref08_Find.envok 
theorem transomref08_Find.segs_ok : ∀ k, ∀ s ∈ (transomref08_Find.E k).segs, SegOK (transomref08_Find.E k) Go.Proofs.Tryd.f34 s
  | 0 => by
    intro s hs
    simp only [transomref08_Find.E, env_transomref08_Find, List.mem_cons, List.not_mem_nil, or_false] at hs
    rcases hs with rfl
    · intro tvs blks res h; exfalso; simp only [seg_transomref08_Find_0] at h; split at h <;> simp [transomref08_Find.s0] at h
  | k + 1 => by
    intro s hs
    simp only [transomref08_Find.E, env_transomref08_Find, List.mem_cons, List.not_mem_nil, or_false] at hs
    rcases hs with rfl
    · refine seg_of_ev (E := transomref08_Find.E k) (transomref08_Find.hE k) ⟨transomref08_Find.is.rvs⟩ (transomref08_Find.segs_ok k) ?_
      intro tvs blks res h
      simp only [seg_transomref08_Find_0] at h
      split at h
      · exact (transomref08_Find.s0_ev.trans transomref08_Find.s0c_bind).trans h
      · simp at h
theorem transomref08_Find.ok (k : Nat) : CtOK Go.Proofs.Tryd.prog 34 (ct_transomref08_Find (transomref08_Find.f k)) := by
  refine ct_of_ev (E := transomref08_Find.E k) transomref08_Find.is (transomref08_Find.hE k) (transomref08_Find.segs_ok k) rfl ?_
  intro tvs blks res h
  simp only [ct_transomref08_Find] at h
  split at h
  · exact (transomref08_Find.ev.trans transomref08_Find.c_bind).trans h
  · simp at h
end Go.Proofs.YtddlebbjaadbeaaDoor.Aev
