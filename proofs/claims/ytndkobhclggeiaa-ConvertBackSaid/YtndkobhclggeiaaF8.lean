/- By a program of this session (AEV): functions of the program as plain functions, and that the machine does what they say. -/
import Derived.Test.YtndkobhclggeiaaAevW
import Derived.Test.YtndkobhclggeiaaProg
import Derived.Laws.Externs
import Derived.Lib.Bytealg
import Derived.Test.YtndkobhclggeiaaF6
import Derived.Test.YtndkobhclggeiaaF7
namespace Go.Proofs.Ytndkobhclggeiaa.Aev
set_option linter.unusedVariables false
set_option linter.unusedSimpArgs false
set_option maxRecDepth 100000
set_option maxHeartbeats 4000000
open Go
/-! ### transomref04_Check: function 28 -/
def ct_transomref04_Check (g : Int → Int → Int → ByteArray → Option Int) : Ct where
  nin := 0
  mv := []
  F := fun tvs blks {β} K => match tvs, blks with
    | [.v (.agg [(.d (.int .i64) a0), (.d (.int .i64) a1), (.d (.int .u64) a2), (.d .str a3)])], [] => (g a0 a1 a2 a3).bind fun r => K ⟨.v (.one (.d (.int .i64) r)), []⟩
    | _, _ => none
  legit := fun tvs blks K r h => by
    split at h
    · obtain ⟨x, hx, hk⟩ := Option.bind_eq_some_iff.1 h
      refine ⟨_, ?_, hk⟩
      simp only [hx, Option.bind_some]
    · simp at h
def seg_transomref04_Check_0 (g : Bool → Int → Int → Int → ByteArray → Option Int) : Seg where
  path := [1, 1]
  prep := []
  keep := [1, 3]
  F := fun tvs blks {β} K => match tvs, blks with
    | [.v (.one (.ptr 0 0)), .v (.one (.d .bool x0))], [some (.box [(.d (.int .i64) x1), (.d (.int .i64) x2), (.d (.int .u64) x3), (.d .str x4)])] => (g x0 x1 x2 x3 x4).bind fun r => K ⟨.v (.one (.d (.int .i64) r)), []⟩
    | _, _ => none
  legit := fun tvs blks K r h => by
    split at h
    · obtain ⟨x, hx, hk⟩ := Option.bind_eq_some_iff.1 h
      refine ⟨_, ?_, hk⟩
      simp only [hx, Option.bind_some]
    · simp at h
def seg_transomref04_Check_1 (g : Bool → Bool → Int → Int → Int → ByteArray → Option Int) : Seg where
  path := [1, 1, 1]
  prep := []
  keep := [1, 3, 4]
  F := fun tvs blks {β} K => match tvs, blks with
    | [.v (.one (.ptr 0 0)), .v (.one (.d .bool x0)), .v (.one (.d .bool x1))], [some (.box [(.d (.int .i64) x2), (.d (.int .i64) x3), (.d (.int .u64) x4), (.d .str x5)])] => (g x0 x1 x2 x3 x4 x5).bind fun r => K ⟨.v (.one (.d (.int .i64) r)), []⟩
    | _, _ => none
  legit := fun tvs blks K r h => by
    split at h
    · obtain ⟨x, hx, hk⟩ := Option.bind_eq_some_iff.1 h
      refine ⟨_, ?_, hk⟩
      simp only [hx, Option.bind_some]
    · simp at h
def seg_transomref04_Check_2 (g : Bool → Bool → Bool → Int → Int → Int → ByteArray → Option Int) : Seg where
  path := [1, 4, 0, 1, 1, 1]
  prep := []
  keep := [1, 3, 4, 21]
  F := fun tvs blks {β} K => match tvs, blks with
    | [.v (.one (.ptr 0 0)), .v (.one (.d .bool x0)), .v (.one (.d .bool x1)), .v (.one (.d .bool x2))], [some (.box [(.d (.int .i64) x3), (.d (.int .i64) x4), (.d (.int .u64) x5), (.d .str x6)])] => (g x0 x1 x2 x3 x4 x5 x6).bind fun r => K ⟨.v (.one (.d (.int .i64) r)), []⟩
    | _, _ => none
  legit := fun tvs blks K r h => by
    split at h
    · obtain ⟨x, hx, hk⟩ := Option.bind_eq_some_iff.1 h
      refine ⟨_, ?_, hk⟩
      simp only [hx, Option.bind_some]
    · simp at h
def seg_transomref04_Check_3 (g : Bool → Int → Int → Int → ByteArray → Option Int) : Seg where
  path := [1, 3, 1, 4, 0, 1, 1, 1]
  prep := []
  keep := [1, 30]
  F := fun tvs blks {β} K => match tvs, blks with
    | [.v (.one (.ptr 0 0)), .v (.one (.d .bool x0))], [some (.box [(.d (.int .i64) x1), (.d (.int .i64) x2), (.d (.int .u64) x3), (.d .str x4)])] => (g x0 x1 x2 x3 x4).bind fun r => K ⟨.v (.one (.d (.int .i64) r)), []⟩
    | _, _ => none
  legit := fun tvs blks K r h => by
    split at h
    · obtain ⟨x, hx, hk⟩ := Option.bind_eq_some_iff.1 h
      refine ⟨_, ?_, hk⟩
      simp only [hx, Option.bind_some]
    · simp at h
def seg_transomref04_Check_4 (g : Bool → Int → Int → Int → ByteArray → Option Int) : Seg where
  path := [1, 3, 1, 3, 1, 4, 0, 1, 1, 1]
  prep := []
  keep := [1, 57]
  F := fun tvs blks {β} K => match tvs, blks with
    | [.v (.one (.ptr 0 0)), .v (.one (.d .bool x0))], [some (.box [(.d (.int .i64) x1), (.d (.int .i64) x2), (.d (.int .u64) x3), (.d .str x4)])] => (g x0 x1 x2 x3 x4).bind fun r => K ⟨.v (.one (.d (.int .i64) r)), []⟩
    | _, _ => none
  legit := fun tvs blks K r h => by
    split at h
    · obtain ⟨x, hx, hk⟩ := Option.bind_eq_some_iff.1 h
      refine ⟨_, ?_, hk⟩
      simp only [hx, Option.bind_some]
    · simp at h
def seg_transomref04_Check_5 (g : Bool → Int → Int → Int → ByteArray → Option Int) : Seg where
  path := [1, 3, 1, 3, 1, 3, 1, 4, 0, 1, 1, 1]
  prep := []
  keep := [1, 71]
  F := fun tvs blks {β} K => match tvs, blks with
    | [.v (.one (.ptr 0 0)), .v (.one (.d .bool x0))], [some (.box [(.d (.int .i64) x1), (.d (.int .i64) x2), (.d (.int .u64) x3), (.d .str x4)])] => (g x0 x1 x2 x3 x4).bind fun r => K ⟨.v (.one (.d (.int .i64) r)), []⟩
    | _, _ => none
  legit := fun tvs blks K r h => by
    split at h
    · obtain ⟨x, hx, hk⟩ := Option.bind_eq_some_iff.1 h
      refine ⟨_, ?_, hk⟩
      simp only [hx, Option.bind_some]
    · simp at h
noncomputable def env_transomref04_Check (g43 : Int → Option Int) (g44 : ByteArray → Option Bool) (s0 : Bool → Int → Int → Int → ByteArray → Option Int) (s1 : Bool → Bool → Int → Int → Int → ByteArray → Option Int) (s2 : Bool → Bool → Bool → Int → Int → Int → ByteArray → Option Int) (s3 : Bool → Int → Int → Int → ByteArray → Option Int) (s4 : Bool → Int → Int → Int → ByteArray → Option Int) (s5 : Bool → Int → Int → Int → ByteArray → Option Int) : FEnv := { P := Go.Proofs.Try.prog, ct := fun m => if m = 43 then some (ct_transomref02_Canon g43) else if m = 44 then some (ct_transomref01_Valid g44) else none, N := 98, body := Go.Proofs.Try.f28.body.getD .skip, rvs := [.tmp 2], rts := [3], nin := 0, rmv := [], segs := [seg_transomref04_Check_0 s0, seg_transomref04_Check_1 s1, seg_transomref04_Check_2 s2, seg_transomref04_Check_3 s3, seg_transomref04_Check_4 s4, seg_transomref04_Check_5 s5] }
def transomref04_Check.c {β : Type} (g43 : Int → Option Int) (g44 : ByteArray → Option Bool) (s0 : Bool → Int → Int → Int → ByteArray → Option Int) (s1 : Bool → Bool → Int → Int → Int → ByteArray → Option Int) (s2 : Bool → Bool → Bool → Int → Int → Int → ByteArray → Option Int) (s3 : Bool → Int → Int → Int → ByteArray → Option Int) (s4 : Bool → Int → Int → Int → ByteArray → Option Int) (s5 : Bool → Int → Int → Int → ByteArray → Option Int) (a0 : Int) (a1 : Int) (a2 : Int) (a3 : ByteArray) (ret : Int → Option β) : Option β := (bif (a0 == (1 : Int)) then ((s0 true a0 a1 a2 a3).bind ret) else ((s0 (a0 == (2 : Int)) a0 a1 a2 a3).bind ret))
def transomref04_Check.s0c {β : Type} (g43 : Int → Option Int) (g44 : ByteArray → Option Bool) (s0 : Bool → Int → Int → Int → ByteArray → Option Int) (s1 : Bool → Bool → Int → Int → Int → ByteArray → Option Int) (s2 : Bool → Bool → Bool → Int → Int → Int → ByteArray → Option Int) (s3 : Bool → Int → Int → Int → ByteArray → Option Int) (s4 : Bool → Int → Int → Int → ByteArray → Option Int) (s5 : Bool → Int → Int → Int → ByteArray → Option Int) (x0 : Bool) (x1 : Int) (x2 : Int) (x3 : Int) (x4 : ByteArray) (ret : Int → Option β) : Option β := (bif (x1 == (4 : Int)) then ((s1 x0 true x1 x2 x3 x4).bind ret) else ((s1 x0 (x1 == (5 : Int)) x1 x2 x3 x4).bind ret))
def transomref04_Check.s1c {β : Type} (g43 : Int → Option Int) (g44 : ByteArray → Option Bool) (s0 : Bool → Int → Int → Int → ByteArray → Option Int) (s1 : Bool → Bool → Int → Int → Int → ByteArray → Option Int) (s2 : Bool → Bool → Bool → Int → Int → Int → ByteArray → Option Int) (s3 : Bool → Int → Int → Int → ByteArray → Option Int) (s4 : Bool → Int → Int → Int → ByteArray → Option Int) (s5 : Bool → Int → Int → Int → ByteArray → Option Int) (x0 : Bool) (x1 : Bool) (x2 : Int) (x3 : Int) (x4 : Int) (x5 : ByteArray) (ret : Int → Option β) : Option β := (bif (decide (x2 < (0 : Int))) then ((s2 x0 x1 true x2 x3 x4 x5).bind ret) else ((s2 x0 x1 (decide (x2 > (5 : Int))) x2 x3 x4 x5).bind ret))
def transomref04_Check.s2c {β : Type} (g43 : Int → Option Int) (g44 : ByteArray → Option Bool) (s0 : Bool → Int → Int → Int → ByteArray → Option Int) (s1 : Bool → Bool → Int → Int → Int → ByteArray → Option Int) (s2 : Bool → Bool → Bool → Int → Int → Int → ByteArray → Option Int) (s3 : Bool → Int → Int → Int → ByteArray → Option Int) (s4 : Bool → Int → Int → Int → ByteArray → Option Int) (s5 : Bool → Int → Int → Int → ByteArray → Option Int) (x0 : Bool) (x1 : Bool) (x2 : Bool) (x3 : Int) (x4 : Int) (x5 : Int) (x6 : ByteArray) (ret : Int → Option β) : Option β := (bif x2 then (ret ((5 : Int))) else (bif (x4 != (0 : Int)) then (bif (!x0) then ((s3 true x3 x4 x5 x6).bind ret) else (bif (x5 != (0 : Int)) then (bif (x3 != (3 : Int)) then ((s3 true x3 x4 x5 x6).bind ret) else (bif (!((ByteArray.toList x6) == (ByteArray.toList (ByteArray.mk (List.toArray []))))) then ((s3 (!x1) x3 x4 x5 x6).bind ret) else ((s3 false x3 x4 x5 x6).bind ret))) else (bif (!((ByteArray.toList x6) == (ByteArray.toList (ByteArray.mk (List.toArray []))))) then ((s3 (!x1) x3 x4 x5 x6).bind ret) else ((s3 false x3 x4 x5 x6).bind ret)))) else (bif (x5 != (0 : Int)) then (bif (x3 != (3 : Int)) then ((s3 true x3 x4 x5 x6).bind ret) else (bif (!((ByteArray.toList x6) == (ByteArray.toList (ByteArray.mk (List.toArray []))))) then ((s3 (!x1) x3 x4 x5 x6).bind ret) else ((s3 false x3 x4 x5 x6).bind ret))) else (bif (!((ByteArray.toList x6) == (ByteArray.toList (ByteArray.mk (List.toArray []))))) then ((s3 (!x1) x3 x4 x5 x6).bind ret) else ((s3 false x3 x4 x5 x6).bind ret)))))
def transomref04_Check.s3c {β : Type} (g43 : Int → Option Int) (g44 : ByteArray → Option Bool) (s0 : Bool → Int → Int → Int → ByteArray → Option Int) (s1 : Bool → Bool → Int → Int → Int → ByteArray → Option Int) (s2 : Bool → Bool → Bool → Int → Int → Int → ByteArray → Option Int) (s3 : Bool → Int → Int → Int → ByteArray → Option Int) (s4 : Bool → Int → Int → Int → ByteArray → Option Int) (s5 : Bool → Int → Int → Int → ByteArray → Option Int) (x0 : Bool) (x1 : Int) (x2 : Int) (x3 : Int) (x4 : ByteArray) (ret : Int → Option β) : Option β := (bif x0 then (ret ((4 : Int))) else (bif (x1 == (1 : Int)) then (bif (x2 != (0 : Int)) then ((s4 (x2 != (1 : Int)) x1 x2 x3 x4).bind ret) else ((s4 false x1 x2 x3 x4).bind ret)) else ((s4 false x1 x2 x3 x4).bind ret)))
def transomref04_Check.s4c {β : Type} (g43 : Int → Option Int) (g44 : ByteArray → Option Bool) (s0 : Bool → Int → Int → Int → ByteArray → Option Int) (s1 : Bool → Bool → Int → Int → Int → ByteArray → Option Int) (s2 : Bool → Bool → Bool → Int → Int → Int → ByteArray → Option Int) (s3 : Bool → Int → Int → Int → ByteArray → Option Int) (s4 : Bool → Int → Int → Int → ByteArray → Option Int) (s5 : Bool → Int → Int → Int → ByteArray → Option Int) (x0 : Bool) (x1 : Int) (x2 : Int) (x3 : Int) (x4 : ByteArray) (ret : Int → Option β) : Option β := (bif x0 then (ret ((6 : Int))) else (bif (x1 == (3 : Int)) then ((g43 x3).bind fun r0 => ((s5 (r0 != x3) x1 x2 x3 x4).bind ret)) else ((s5 false x1 x2 x3 x4).bind ret)))
def transomref04_Check.s5c {β : Type} (g43 : Int → Option Int) (g44 : ByteArray → Option Bool) (s0 : Bool → Int → Int → Int → ByteArray → Option Int) (s1 : Bool → Bool → Int → Int → Int → ByteArray → Option Int) (s2 : Bool → Bool → Bool → Int → Int → Int → ByteArray → Option Int) (s3 : Bool → Int → Int → Int → ByteArray → Option Int) (s4 : Bool → Int → Int → Int → ByteArray → Option Int) (s5 : Bool → Int → Int → Int → ByteArray → Option Int) (x0 : Bool) (x1 : Int) (x2 : Int) (x3 : Int) (x4 : ByteArray) (ret : Int → Option β) : Option β := (bif x0 then (ret ((4 : Int))) else (bif (decide (((ByteArray.size x4) : Int) > (64 : Int))) then (ret ((2 : Int))) else (bif (x1 == (5 : Int)) then ((g44 x4).bind fun r0 => (bif (!r0) then (ret ((7 : Int))) else (ret ((0 : Int))))) else (ret ((0 : Int))))))
theorem transomref04_Check.c_bind {β : Type} (g43 : Int → Option Int) (g44 : ByteArray → Option Bool) (s0 : Bool → Int → Int → Int → ByteArray → Option Int) (s1 : Bool → Bool → Int → Int → Int → ByteArray → Option Int) (s2 : Bool → Bool → Bool → Int → Int → Int → ByteArray → Option Int) (s3 : Bool → Int → Int → Int → ByteArray → Option Int) (s4 : Bool → Int → Int → Int → ByteArray → Option Int) (s5 : Bool → Int → Int → Int → ByteArray → Option Int) (a0 : Int) (a1 : Int) (a2 : Int) (a3 : ByteArray) (ret : Int → Option β) : transomref04_Check.c g43 g44 s0 s1 s2 s3 s4 s5 a0 a1 a2 a3 ret = (transomref04_Check.c g43 g44 s0 s1 s2 s3 s4 s5 a0 a1 a2 a3 some).bind ret := by
  simp only [transomref04_Check.c, bif_bind, sum_bind, Option.bind_assoc, Option.bind_some, Option.bind_none, Option.bind_fun_some]
theorem transomref04_Check.s0c_bind {β : Type} (g43 : Int → Option Int) (g44 : ByteArray → Option Bool) (s0 : Bool → Int → Int → Int → ByteArray → Option Int) (s1 : Bool → Bool → Int → Int → Int → ByteArray → Option Int) (s2 : Bool → Bool → Bool → Int → Int → Int → ByteArray → Option Int) (s3 : Bool → Int → Int → Int → ByteArray → Option Int) (s4 : Bool → Int → Int → Int → ByteArray → Option Int) (s5 : Bool → Int → Int → Int → ByteArray → Option Int) (x0 : Bool) (x1 : Int) (x2 : Int) (x3 : Int) (x4 : ByteArray) (ret : Int → Option β) : transomref04_Check.s0c g43 g44 s0 s1 s2 s3 s4 s5 x0 x1 x2 x3 x4 ret = (transomref04_Check.s0c g43 g44 s0 s1 s2 s3 s4 s5 x0 x1 x2 x3 x4 some).bind ret := by
  simp only [transomref04_Check.s0c, bif_bind, sum_bind, Option.bind_assoc, Option.bind_some, Option.bind_none, Option.bind_fun_some]
theorem transomref04_Check.s1c_bind {β : Type} (g43 : Int → Option Int) (g44 : ByteArray → Option Bool) (s0 : Bool → Int → Int → Int → ByteArray → Option Int) (s1 : Bool → Bool → Int → Int → Int → ByteArray → Option Int) (s2 : Bool → Bool → Bool → Int → Int → Int → ByteArray → Option Int) (s3 : Bool → Int → Int → Int → ByteArray → Option Int) (s4 : Bool → Int → Int → Int → ByteArray → Option Int) (s5 : Bool → Int → Int → Int → ByteArray → Option Int) (x0 : Bool) (x1 : Bool) (x2 : Int) (x3 : Int) (x4 : Int) (x5 : ByteArray) (ret : Int → Option β) : transomref04_Check.s1c g43 g44 s0 s1 s2 s3 s4 s5 x0 x1 x2 x3 x4 x5 ret = (transomref04_Check.s1c g43 g44 s0 s1 s2 s3 s4 s5 x0 x1 x2 x3 x4 x5 some).bind ret := by
  simp only [transomref04_Check.s1c, bif_bind, sum_bind, Option.bind_assoc, Option.bind_some, Option.bind_none, Option.bind_fun_some]
theorem transomref04_Check.s2c_bind {β : Type} (g43 : Int → Option Int) (g44 : ByteArray → Option Bool) (s0 : Bool → Int → Int → Int → ByteArray → Option Int) (s1 : Bool → Bool → Int → Int → Int → ByteArray → Option Int) (s2 : Bool → Bool → Bool → Int → Int → Int → ByteArray → Option Int) (s3 : Bool → Int → Int → Int → ByteArray → Option Int) (s4 : Bool → Int → Int → Int → ByteArray → Option Int) (s5 : Bool → Int → Int → Int → ByteArray → Option Int) (x0 : Bool) (x1 : Bool) (x2 : Bool) (x3 : Int) (x4 : Int) (x5 : Int) (x6 : ByteArray) (ret : Int → Option β) : transomref04_Check.s2c g43 g44 s0 s1 s2 s3 s4 s5 x0 x1 x2 x3 x4 x5 x6 ret = (transomref04_Check.s2c g43 g44 s0 s1 s2 s3 s4 s5 x0 x1 x2 x3 x4 x5 x6 some).bind ret := by
  simp only [transomref04_Check.s2c, bif_bind, sum_bind, Option.bind_assoc, Option.bind_some, Option.bind_none, Option.bind_fun_some]
theorem transomref04_Check.s3c_bind {β : Type} (g43 : Int → Option Int) (g44 : ByteArray → Option Bool) (s0 : Bool → Int → Int → Int → ByteArray → Option Int) (s1 : Bool → Bool → Int → Int → Int → ByteArray → Option Int) (s2 : Bool → Bool → Bool → Int → Int → Int → ByteArray → Option Int) (s3 : Bool → Int → Int → Int → ByteArray → Option Int) (s4 : Bool → Int → Int → Int → ByteArray → Option Int) (s5 : Bool → Int → Int → Int → ByteArray → Option Int) (x0 : Bool) (x1 : Int) (x2 : Int) (x3 : Int) (x4 : ByteArray) (ret : Int → Option β) : transomref04_Check.s3c g43 g44 s0 s1 s2 s3 s4 s5 x0 x1 x2 x3 x4 ret = (transomref04_Check.s3c g43 g44 s0 s1 s2 s3 s4 s5 x0 x1 x2 x3 x4 some).bind ret := by
  simp only [transomref04_Check.s3c, bif_bind, sum_bind, Option.bind_assoc, Option.bind_some, Option.bind_none, Option.bind_fun_some]
theorem transomref04_Check.s4c_bind {β : Type} (g43 : Int → Option Int) (g44 : ByteArray → Option Bool) (s0 : Bool → Int → Int → Int → ByteArray → Option Int) (s1 : Bool → Bool → Int → Int → Int → ByteArray → Option Int) (s2 : Bool → Bool → Bool → Int → Int → Int → ByteArray → Option Int) (s3 : Bool → Int → Int → Int → ByteArray → Option Int) (s4 : Bool → Int → Int → Int → ByteArray → Option Int) (s5 : Bool → Int → Int → Int → ByteArray → Option Int) (x0 : Bool) (x1 : Int) (x2 : Int) (x3 : Int) (x4 : ByteArray) (ret : Int → Option β) : transomref04_Check.s4c g43 g44 s0 s1 s2 s3 s4 s5 x0 x1 x2 x3 x4 ret = (transomref04_Check.s4c g43 g44 s0 s1 s2 s3 s4 s5 x0 x1 x2 x3 x4 some).bind ret := by
  simp only [transomref04_Check.s4c, bif_bind, sum_bind, Option.bind_assoc, Option.bind_some, Option.bind_none, Option.bind_fun_some]
theorem transomref04_Check.s5c_bind {β : Type} (g43 : Int → Option Int) (g44 : ByteArray → Option Bool) (s0 : Bool → Int → Int → Int → ByteArray → Option Int) (s1 : Bool → Bool → Int → Int → Int → ByteArray → Option Int) (s2 : Bool → Bool → Bool → Int → Int → Int → ByteArray → Option Int) (s3 : Bool → Int → Int → Int → ByteArray → Option Int) (s4 : Bool → Int → Int → Int → ByteArray → Option Int) (s5 : Bool → Int → Int → Int → ByteArray → Option Int) (x0 : Bool) (x1 : Int) (x2 : Int) (x3 : Int) (x4 : ByteArray) (ret : Int → Option β) : transomref04_Check.s5c g43 g44 s0 s1 s2 s3 s4 s5 x0 x1 x2 x3 x4 ret = (transomref04_Check.s5c g43 g44 s0 s1 s2 s3 s4 s5 x0 x1 x2 x3 x4 some).bind ret := by
  simp only [transomref04_Check.s5c, bif_bind, sum_bind, Option.bind_assoc, Option.bind_some, Option.bind_none, Option.bind_fun_some]
theorem transomref04_Check.ev (g43 : Int → Option Int) (g44 : ByteArray → Option Bool) (s0 : Bool → Int → Int → Int → ByteArray → Option Int) (s1 : Bool → Bool → Int → Int → Int → ByteArray → Option Int) (s2 : Bool → Bool → Bool → Int → Int → Int → ByteArray → Option Int) (s3 : Bool → Int → Int → Int → ByteArray → Option Int) (s4 : Bool → Int → Int → Int → ByteArray → Option Int) (s5 : Bool → Int → Int → Int → ByteArray → Option Int) (a0 : Int) (a1 : Int) (a2 : Int) (a3 : ByteArray) : evAt (env_transomref04_Check g43 g44 s0 s1 s2 s3 s4 s5) [] [0] [.v (.agg [(.d (.int .i64) a0), (.d (.int .i64) a1), (.d (.int .u64) a2), (.d .str a3)])] [] some = transomref04_Check.c g43 g44 s0 s1 s2 s3 s4 s5 a0 a1 a2 a3 (fun r => some ⟨.v (.one (.d (.int .i64) r)), []⟩) := by
  kernel_rfl
theorem transomref04_Check.s0_ev (g43 : Int → Option Int) (g44 : ByteArray → Option Bool) (s0 : Bool → Int → Int → Int → ByteArray → Option Int) (s1 : Bool → Bool → Int → Int → Int → ByteArray → Option Int) (s2 : Bool → Bool → Bool → Int → Int → Int → ByteArray → Option Int) (s3 : Bool → Int → Int → Int → ByteArray → Option Int) (s4 : Bool → Int → Int → Int → ByteArray → Option Int) (s5 : Bool → Int → Int → Int → ByteArray → Option Int) (x0 : Bool) (x1 : Int) (x2 : Int) (x3 : Int) (x4 : ByteArray) : evAt (env_transomref04_Check g43 g44 s0 s1 s2 s3 s4 s5) [1, 1] [1, 3] [.v (.one (.ptr 0 0)), .v (.one (.d .bool x0))] [some (.box [(.d (.int .i64) x1), (.d (.int .i64) x2), (.d (.int .u64) x3), (.d .str x4)])] some = transomref04_Check.s0c g43 g44 s0 s1 s2 s3 s4 s5 x0 x1 x2 x3 x4 (fun r => some ⟨.v (.one (.d (.int .i64) r)), []⟩) := by
  kernel_rfl
theorem transomref04_Check.s1_ev (g43 : Int → Option Int) (g44 : ByteArray → Option Bool) (s0 : Bool → Int → Int → Int → ByteArray → Option Int) (s1 : Bool → Bool → Int → Int → Int → ByteArray → Option Int) (s2 : Bool → Bool → Bool → Int → Int → Int → ByteArray → Option Int) (s3 : Bool → Int → Int → Int → ByteArray → Option Int) (s4 : Bool → Int → Int → Int → ByteArray → Option Int) (s5 : Bool → Int → Int → Int → ByteArray → Option Int) (x0 : Bool) (x1 : Bool) (x2 : Int) (x3 : Int) (x4 : Int) (x5 : ByteArray) : evAt (env_transomref04_Check g43 g44 s0 s1 s2 s3 s4 s5) [1, 1, 1] [1, 3, 4] [.v (.one (.ptr 0 0)), .v (.one (.d .bool x0)), .v (.one (.d .bool x1))] [some (.box [(.d (.int .i64) x2), (.d (.int .i64) x3), (.d (.int .u64) x4), (.d .str x5)])] some = transomref04_Check.s1c g43 g44 s0 s1 s2 s3 s4 s5 x0 x1 x2 x3 x4 x5 (fun r => some ⟨.v (.one (.d (.int .i64) r)), []⟩) := by
  kernel_rfl
theorem transomref04_Check.s2_ev (g43 : Int → Option Int) (g44 : ByteArray → Option Bool) (s0 : Bool → Int → Int → Int → ByteArray → Option Int) (s1 : Bool → Bool → Int → Int → Int → ByteArray → Option Int) (s2 : Bool → Bool → Bool → Int → Int → Int → ByteArray → Option Int) (s3 : Bool → Int → Int → Int → ByteArray → Option Int) (s4 : Bool → Int → Int → Int → ByteArray → Option Int) (s5 : Bool → Int → Int → Int → ByteArray → Option Int) (x0 : Bool) (x1 : Bool) (x2 : Bool) (x3 : Int) (x4 : Int) (x5 : Int) (x6 : ByteArray) : evAt (env_transomref04_Check g43 g44 s0 s1 s2 s3 s4 s5) [1, 4, 0, 1, 1, 1] [1, 3, 4, 21] [.v (.one (.ptr 0 0)), .v (.one (.d .bool x0)), .v (.one (.d .bool x1)), .v (.one (.d .bool x2))] [some (.box [(.d (.int .i64) x3), (.d (.int .i64) x4), (.d (.int .u64) x5), (.d .str x6)])] some = transomref04_Check.s2c g43 g44 s0 s1 s2 s3 s4 s5 x0 x1 x2 x3 x4 x5 x6 (fun r => some ⟨.v (.one (.d (.int .i64) r)), []⟩) := by
  kernel_rfl
theorem transomref04_Check.s3_ev (g43 : Int → Option Int) (g44 : ByteArray → Option Bool) (s0 : Bool → Int → Int → Int → ByteArray → Option Int) (s1 : Bool → Bool → Int → Int → Int → ByteArray → Option Int) (s2 : Bool → Bool → Bool → Int → Int → Int → ByteArray → Option Int) (s3 : Bool → Int → Int → Int → ByteArray → Option Int) (s4 : Bool → Int → Int → Int → ByteArray → Option Int) (s5 : Bool → Int → Int → Int → ByteArray → Option Int) (x0 : Bool) (x1 : Int) (x2 : Int) (x3 : Int) (x4 : ByteArray) : evAt (env_transomref04_Check g43 g44 s0 s1 s2 s3 s4 s5) [1, 3, 1, 4, 0, 1, 1, 1] [1, 30] [.v (.one (.ptr 0 0)), .v (.one (.d .bool x0))] [some (.box [(.d (.int .i64) x1), (.d (.int .i64) x2), (.d (.int .u64) x3), (.d .str x4)])] some = transomref04_Check.s3c g43 g44 s0 s1 s2 s3 s4 s5 x0 x1 x2 x3 x4 (fun r => some ⟨.v (.one (.d (.int .i64) r)), []⟩) := by
  kernel_rfl
theorem transomref04_Check.s4_ev (g43 : Int → Option Int) (g44 : ByteArray → Option Bool) (s0 : Bool → Int → Int → Int → ByteArray → Option Int) (s1 : Bool → Bool → Int → Int → Int → ByteArray → Option Int) (s2 : Bool → Bool → Bool → Int → Int → Int → ByteArray → Option Int) (s3 : Bool → Int → Int → Int → ByteArray → Option Int) (s4 : Bool → Int → Int → Int → ByteArray → Option Int) (s5 : Bool → Int → Int → Int → ByteArray → Option Int) (x0 : Bool) (x1 : Int) (x2 : Int) (x3 : Int) (x4 : ByteArray) : evAt (env_transomref04_Check g43 g44 s0 s1 s2 s3 s4 s5) [1, 3, 1, 3, 1, 4, 0, 1, 1, 1] [1, 57] [.v (.one (.ptr 0 0)), .v (.one (.d .bool x0))] [some (.box [(.d (.int .i64) x1), (.d (.int .i64) x2), (.d (.int .u64) x3), (.d .str x4)])] some = transomref04_Check.s4c g43 g44 s0 s1 s2 s3 s4 s5 x0 x1 x2 x3 x4 (fun r => some ⟨.v (.one (.d (.int .i64) r)), []⟩) := by
  kernel_rfl
theorem transomref04_Check.s5_ev (g43 : Int → Option Int) (g44 : ByteArray → Option Bool) (s0 : Bool → Int → Int → Int → ByteArray → Option Int) (s1 : Bool → Bool → Int → Int → Int → ByteArray → Option Int) (s2 : Bool → Bool → Bool → Int → Int → Int → ByteArray → Option Int) (s3 : Bool → Int → Int → Int → ByteArray → Option Int) (s4 : Bool → Int → Int → Int → ByteArray → Option Int) (s5 : Bool → Int → Int → Int → ByteArray → Option Int) (x0 : Bool) (x1 : Int) (x2 : Int) (x3 : Int) (x4 : ByteArray) : evAt (env_transomref04_Check g43 g44 s0 s1 s2 s3 s4 s5) [1, 3, 1, 3, 1, 3, 1, 4, 0, 1, 1, 1] [1, 71] [.v (.one (.ptr 0 0)), .v (.one (.d .bool x0))] [some (.box [(.d (.int .i64) x1), (.d (.int .i64) x2), (.d (.int .u64) x3), (.d .str x4)])] some = transomref04_Check.s5c g43 g44 s0 s1 s2 s3 s4 s5 x0 x1 x2 x3 x4 (fun r => some ⟨.v (.one (.d (.int .i64) r)), []⟩) := by
  kernel_rfl
mutual
def transomref04_Check.s0 : Nat → Bool → Int → Int → Int → ByteArray → Option Int
  | 0, _, _, _, _, _ => none
  | k + 1, x0, x1, x2, x3, x4 => transomref04_Check.s0c (transomref02_Canon.f k) (transomref01_Valid.f k) (transomref04_Check.s0 k) (transomref04_Check.s1 k) (transomref04_Check.s2 k) (transomref04_Check.s3 k) (transomref04_Check.s4 k) (transomref04_Check.s5 k) x0 x1 x2 x3 x4 some
def transomref04_Check.s1 : Nat → Bool → Bool → Int → Int → Int → ByteArray → Option Int
  | 0, _, _, _, _, _, _ => none
  | k + 1, x0, x1, x2, x3, x4, x5 => transomref04_Check.s1c (transomref02_Canon.f k) (transomref01_Valid.f k) (transomref04_Check.s0 k) (transomref04_Check.s1 k) (transomref04_Check.s2 k) (transomref04_Check.s3 k) (transomref04_Check.s4 k) (transomref04_Check.s5 k) x0 x1 x2 x3 x4 x5 some
def transomref04_Check.s2 : Nat → Bool → Bool → Bool → Int → Int → Int → ByteArray → Option Int
  | 0, _, _, _, _, _, _, _ => none
  | k + 1, x0, x1, x2, x3, x4, x5, x6 => transomref04_Check.s2c (transomref02_Canon.f k) (transomref01_Valid.f k) (transomref04_Check.s0 k) (transomref04_Check.s1 k) (transomref04_Check.s2 k) (transomref04_Check.s3 k) (transomref04_Check.s4 k) (transomref04_Check.s5 k) x0 x1 x2 x3 x4 x5 x6 some
def transomref04_Check.s3 : Nat → Bool → Int → Int → Int → ByteArray → Option Int
  | 0, _, _, _, _, _ => none
  | k + 1, x0, x1, x2, x3, x4 => transomref04_Check.s3c (transomref02_Canon.f k) (transomref01_Valid.f k) (transomref04_Check.s0 k) (transomref04_Check.s1 k) (transomref04_Check.s2 k) (transomref04_Check.s3 k) (transomref04_Check.s4 k) (transomref04_Check.s5 k) x0 x1 x2 x3 x4 some
def transomref04_Check.s4 : Nat → Bool → Int → Int → Int → ByteArray → Option Int
  | 0, _, _, _, _, _ => none
  | k + 1, x0, x1, x2, x3, x4 => transomref04_Check.s4c (transomref02_Canon.f k) (transomref01_Valid.f k) (transomref04_Check.s0 k) (transomref04_Check.s1 k) (transomref04_Check.s2 k) (transomref04_Check.s3 k) (transomref04_Check.s4 k) (transomref04_Check.s5 k) x0 x1 x2 x3 x4 some
def transomref04_Check.s5 : Nat → Bool → Int → Int → Int → ByteArray → Option Int
  | 0, _, _, _, _, _ => none
  | k + 1, x0, x1, x2, x3, x4 => transomref04_Check.s5c (transomref02_Canon.f k) (transomref01_Valid.f k) (transomref04_Check.s0 k) (transomref04_Check.s1 k) (transomref04_Check.s2 k) (transomref04_Check.s3 k) (transomref04_Check.s4 k) (transomref04_Check.s5 k) x0 x1 x2 x3 x4 some
end
def transomref04_Check.f (k : Nat) (a0 : Int) (a1 : Int) (a2 : Int) (a3 : ByteArray) : Option Int := transomref04_Check.c (transomref02_Canon.f k) (transomref01_Valid.f k) (transomref04_Check.s0 k) (transomref04_Check.s1 k) (transomref04_Check.s2 k) (transomref04_Check.s3 k) (transomref04_Check.s4 k) (transomref04_Check.s5 k) a0 a1 a2 a3 some
theorem transomref04_Check.is (g43 : Int → Option Int) (g44 : ByteArray → Option Bool) (s0 : Bool → Int → Int → Int → ByteArray → Option Int) (s1 : Bool → Bool → Int → Int → Int → ByteArray → Option Int) (s2 : Bool → Bool → Bool → Int → Int → Int → ByteArray → Option Int) (s3 : Bool → Int → Int → Int → ByteArray → Option Int) (s4 : Bool → Int → Int → Int → ByteArray → Option Int) (s5 : Bool → Int → Int → Int → ByteArray → Option Int) : FnIs (env_transomref04_Check g43 g44 s0 s1 s2 s3 s4 s5) 28 Go.Proofs.Try.f28 := ⟨Go.Proofs.Try.func28, rfl, rfl, rfl, by decide⟩
theorem transomref04_Check.envok (g43 : Int → Option Int) (g44 : ByteArray → Option Bool) (s0 : Bool → Int → Int → Int → ByteArray → Option Int) (s1 : Bool → Bool → Int → Int → Int → ByteArray → Option Int) (s2 : Bool → Bool → Bool → Int → Int → Int → ByteArray → Option Int) (s3 : Bool → Int → Int → Int → ByteArray → Option Int) (s4 : Bool → Int → Int → Int → ByteArray → Option Int) (s5 : Bool → Int → Int → Int → ByteArray → Option Int) (h43 : CtOK Go.Proofs.Try.prog 43 (ct_transomref02_Canon g43)) (h44 : CtOK Go.Proofs.Try.prog 44 (ct_transomref01_Valid g44)) : EnvOK (env_transomref04_Check g43 g44 s0 s1 s2 s3 s4 s5).toEnv := by
  intro f c h
  simp only [env_transomref04_Check] at h
  split at h
  · rename_i e; subst e; cases h; exact h43
  split at h
  · rename_i e; subst e; cases h; exact h44
  simp at h
theorem transomref04_Check.segs_ok : ∀ k, ∀ s ∈ (env_transomref04_Check (transomref02_Canon.f k) (transomref01_Valid.f k) (transomref04_Check.s0 k) (transomref04_Check.s1 k) (transomref04_Check.s2 k) (transomref04_Check.s3 k) (transomref04_Check.s4 k) (transomref04_Check.s5 k)).segs, SegOK (env_transomref04_Check (transomref02_Canon.f k) (transomref01_Valid.f k) (transomref04_Check.s0 k) (transomref04_Check.s1 k) (transomref04_Check.s2 k) (transomref04_Check.s3 k) (transomref04_Check.s4 k) (transomref04_Check.s5 k)) Go.Proofs.Try.f28 s
  | 0 => by
    intro s hs
    simp only [env_transomref04_Check, List.mem_cons, List.not_mem_nil, or_false] at hs
    rcases hs with rfl | rfl | rfl | rfl | rfl | rfl
    · intro tvs blks res h; exfalso; simp only [seg_transomref04_Check_0] at h; split at h <;> simp [transomref04_Check.s0] at h
    · intro tvs blks res h; exfalso; simp only [seg_transomref04_Check_1] at h; split at h <;> simp [transomref04_Check.s1] at h
    · intro tvs blks res h; exfalso; simp only [seg_transomref04_Check_2] at h; split at h <;> simp [transomref04_Check.s2] at h
    · intro tvs blks res h; exfalso; simp only [seg_transomref04_Check_3] at h; split at h <;> simp [transomref04_Check.s3] at h
    · intro tvs blks res h; exfalso; simp only [seg_transomref04_Check_4] at h; split at h <;> simp [transomref04_Check.s4] at h
    · intro tvs blks res h; exfalso; simp only [seg_transomref04_Check_5] at h; split at h <;> simp [transomref04_Check.s5] at h
  | k + 1 => by
    have ih := transomref04_Check.segs_ok k
    intro s hs
    simp only [env_transomref04_Check, List.mem_cons, List.not_mem_nil, or_false] at hs
    rcases hs with rfl | rfl | rfl | rfl | rfl | rfl
    · refine seg_of_ev (E := env_transomref04_Check (transomref02_Canon.f k) (transomref01_Valid.f k) (transomref04_Check.s0 k) (transomref04_Check.s1 k) (transomref04_Check.s2 k) (transomref04_Check.s3 k) (transomref04_Check.s4 k) (transomref04_Check.s5 k)) (transomref04_Check.envok _ _ _ _ _ _ _ _  (transomref02_Canon.ok k) (transomref01_Valid.ok k)) ⟨(transomref04_Check.is (transomref02_Canon.f k) (transomref01_Valid.f k) (transomref04_Check.s0 k) (transomref04_Check.s1 k) (transomref04_Check.s2 k) (transomref04_Check.s3 k) (transomref04_Check.s4 k) (transomref04_Check.s5 k)).rvs⟩ ih ?_
      intro tvs blks res h
      simp only [seg_transomref04_Check_0] at h
      split at h
      · refine (transomref04_Check.s0_ev (transomref02_Canon.f k) (transomref01_Valid.f k) (transomref04_Check.s0 k) (transomref04_Check.s1 k) (transomref04_Check.s2 k) (transomref04_Check.s3 k) (transomref04_Check.s4 k) (transomref04_Check.s5 k) _ _ _ _ _ ).trans ?_
        rw [transomref04_Check.s0c_bind]
        exact h
      · simp at h
    · refine seg_of_ev (E := env_transomref04_Check (transomref02_Canon.f k) (transomref01_Valid.f k) (transomref04_Check.s0 k) (transomref04_Check.s1 k) (transomref04_Check.s2 k) (transomref04_Check.s3 k) (transomref04_Check.s4 k) (transomref04_Check.s5 k)) (transomref04_Check.envok _ _ _ _ _ _ _ _  (transomref02_Canon.ok k) (transomref01_Valid.ok k)) ⟨(transomref04_Check.is (transomref02_Canon.f k) (transomref01_Valid.f k) (transomref04_Check.s0 k) (transomref04_Check.s1 k) (transomref04_Check.s2 k) (transomref04_Check.s3 k) (transomref04_Check.s4 k) (transomref04_Check.s5 k)).rvs⟩ ih ?_
      intro tvs blks res h
      simp only [seg_transomref04_Check_1] at h
      split at h
      · refine (transomref04_Check.s1_ev (transomref02_Canon.f k) (transomref01_Valid.f k) (transomref04_Check.s0 k) (transomref04_Check.s1 k) (transomref04_Check.s2 k) (transomref04_Check.s3 k) (transomref04_Check.s4 k) (transomref04_Check.s5 k) _ _ _ _ _ _ ).trans ?_
        rw [transomref04_Check.s1c_bind]
        exact h
      · simp at h
    · refine seg_of_ev (E := env_transomref04_Check (transomref02_Canon.f k) (transomref01_Valid.f k) (transomref04_Check.s0 k) (transomref04_Check.s1 k) (transomref04_Check.s2 k) (transomref04_Check.s3 k) (transomref04_Check.s4 k) (transomref04_Check.s5 k)) (transomref04_Check.envok _ _ _ _ _ _ _ _  (transomref02_Canon.ok k) (transomref01_Valid.ok k)) ⟨(transomref04_Check.is (transomref02_Canon.f k) (transomref01_Valid.f k) (transomref04_Check.s0 k) (transomref04_Check.s1 k) (transomref04_Check.s2 k) (transomref04_Check.s3 k) (transomref04_Check.s4 k) (transomref04_Check.s5 k)).rvs⟩ ih ?_
      intro tvs blks res h
      simp only [seg_transomref04_Check_2] at h
      split at h
      · refine (transomref04_Check.s2_ev (transomref02_Canon.f k) (transomref01_Valid.f k) (transomref04_Check.s0 k) (transomref04_Check.s1 k) (transomref04_Check.s2 k) (transomref04_Check.s3 k) (transomref04_Check.s4 k) (transomref04_Check.s5 k) _ _ _ _ _ _ _ ).trans ?_
        rw [transomref04_Check.s2c_bind]
        exact h
      · simp at h
    · refine seg_of_ev (E := env_transomref04_Check (transomref02_Canon.f k) (transomref01_Valid.f k) (transomref04_Check.s0 k) (transomref04_Check.s1 k) (transomref04_Check.s2 k) (transomref04_Check.s3 k) (transomref04_Check.s4 k) (transomref04_Check.s5 k)) (transomref04_Check.envok _ _ _ _ _ _ _ _  (transomref02_Canon.ok k) (transomref01_Valid.ok k)) ⟨(transomref04_Check.is (transomref02_Canon.f k) (transomref01_Valid.f k) (transomref04_Check.s0 k) (transomref04_Check.s1 k) (transomref04_Check.s2 k) (transomref04_Check.s3 k) (transomref04_Check.s4 k) (transomref04_Check.s5 k)).rvs⟩ ih ?_
      intro tvs blks res h
      simp only [seg_transomref04_Check_3] at h
      split at h
      · refine (transomref04_Check.s3_ev (transomref02_Canon.f k) (transomref01_Valid.f k) (transomref04_Check.s0 k) (transomref04_Check.s1 k) (transomref04_Check.s2 k) (transomref04_Check.s3 k) (transomref04_Check.s4 k) (transomref04_Check.s5 k) _ _ _ _ _ ).trans ?_
        rw [transomref04_Check.s3c_bind]
        exact h
      · simp at h
    · refine seg_of_ev (E := env_transomref04_Check (transomref02_Canon.f k) (transomref01_Valid.f k) (transomref04_Check.s0 k) (transomref04_Check.s1 k) (transomref04_Check.s2 k) (transomref04_Check.s3 k) (transomref04_Check.s4 k) (transomref04_Check.s5 k)) (transomref04_Check.envok _ _ _ _ _ _ _ _  (transomref02_Canon.ok k) (transomref01_Valid.ok k)) ⟨(transomref04_Check.is (transomref02_Canon.f k) (transomref01_Valid.f k) (transomref04_Check.s0 k) (transomref04_Check.s1 k) (transomref04_Check.s2 k) (transomref04_Check.s3 k) (transomref04_Check.s4 k) (transomref04_Check.s5 k)).rvs⟩ ih ?_
      intro tvs blks res h
      simp only [seg_transomref04_Check_4] at h
      split at h
      · refine (transomref04_Check.s4_ev (transomref02_Canon.f k) (transomref01_Valid.f k) (transomref04_Check.s0 k) (transomref04_Check.s1 k) (transomref04_Check.s2 k) (transomref04_Check.s3 k) (transomref04_Check.s4 k) (transomref04_Check.s5 k) _ _ _ _ _ ).trans ?_
        rw [transomref04_Check.s4c_bind]
        exact h
      · simp at h
    · refine seg_of_ev (E := env_transomref04_Check (transomref02_Canon.f k) (transomref01_Valid.f k) (transomref04_Check.s0 k) (transomref04_Check.s1 k) (transomref04_Check.s2 k) (transomref04_Check.s3 k) (transomref04_Check.s4 k) (transomref04_Check.s5 k)) (transomref04_Check.envok _ _ _ _ _ _ _ _  (transomref02_Canon.ok k) (transomref01_Valid.ok k)) ⟨(transomref04_Check.is (transomref02_Canon.f k) (transomref01_Valid.f k) (transomref04_Check.s0 k) (transomref04_Check.s1 k) (transomref04_Check.s2 k) (transomref04_Check.s3 k) (transomref04_Check.s4 k) (transomref04_Check.s5 k)).rvs⟩ ih ?_
      intro tvs blks res h
      simp only [seg_transomref04_Check_5] at h
      split at h
      · refine (transomref04_Check.s5_ev (transomref02_Canon.f k) (transomref01_Valid.f k) (transomref04_Check.s0 k) (transomref04_Check.s1 k) (transomref04_Check.s2 k) (transomref04_Check.s3 k) (transomref04_Check.s4 k) (transomref04_Check.s5 k) _ _ _ _ _ ).trans ?_
        rw [transomref04_Check.s5c_bind]
        exact h
      · simp at h
theorem transomref04_Check.ok (k : Nat) : CtOK Go.Proofs.Try.prog 28 (ct_transomref04_Check (transomref04_Check.f k)) := by
  refine ct_of_ev (E := env_transomref04_Check (transomref02_Canon.f k) (transomref01_Valid.f k) (transomref04_Check.s0 k) (transomref04_Check.s1 k) (transomref04_Check.s2 k) (transomref04_Check.s3 k) (transomref04_Check.s4 k) (transomref04_Check.s5 k)) (transomref04_Check.is _ _ _ _ _ _ _ _ ) (transomref04_Check.envok _ _ _ _ _ _ _ _  (transomref02_Canon.ok k) (transomref01_Valid.ok k)) (transomref04_Check.segs_ok k) rfl ?_
  intro tvs blks res h
  simp only [ct_transomref04_Check] at h
  split at h
  · refine (transomref04_Check.ev (transomref02_Canon.f k) (transomref01_Valid.f k) (transomref04_Check.s0 k) (transomref04_Check.s1 k) (transomref04_Check.s2 k) (transomref04_Check.s3 k) (transomref04_Check.s4 k) (transomref04_Check.s5 k) _ _ _ _ ).trans ?_
    rw [transomref04_Check.c_bind]
    exact h
  · simp at h
end Go.Proofs.Ytndkobhclggeiaa.Aev
