/- By a program of this session (AEV): functions of the program as plain functions, and that the machine does what they say. -/
import Derived.Test.YtddlebbjaadbeaaDoorTys
import Derived.Test.YtddlebbjaadbeaaDoorProg
import Derived.Laws.Externs
import Derived.Lib.Bytealg
import Derived.Test.YtddlebbjaadbeaaDoorF12
namespace Go.Proofs.YtddlebbjaadbeaaDoor.Aev
set_option linter.unusedVariables false
set_option linter.unusedSimpArgs false
set_option maxRecDepth 100000
set_option maxHeartbeats 4000000
open Go
/-! ### transomref01_Next: function 88 -/
abbrev G_transomref01_Next : Type := ByteArray → Option (Int × Int × Int)
def ct_transomref01_Next (g : G_transomref01_Next) : Ct where
  nin := 0
  mv := []
  F := fun tvs blks {β} K => match tvs, blks with
    | [.v (.one (.d .str a0))], [] => (g a0).bind fun r => K ⟨.tup [(.one (.d (.int .i64) r.1)), (.one (.d (.int .i64) r.2.1)), (.one (.d (.int .i64) r.2.2))], []⟩
    | _, _ => none
  legit := fun tvs blks K r h => by
    split at h
    · obtain ⟨x, hx, hk⟩ := Option.bind_eq_some_iff.1 h
      refine ⟨_, ?_, hk⟩
      simp only [hx, Option.bind_some]
    · simp at h
abbrev S_transomref01_Next_0 : Type := ByteArray → Int → Int → Int → Int → Option (Int × Int × Int)
abbrev S_transomref01_Next_1 : Type := ByteArray → Int → Int → Int → Int → Option (Int × Int × Int)
abbrev S_transomref01_Next_2 : Type := ByteArray → Int → Int → Int → Int → Int → Bool → Option (Int × Int × Int)
abbrev S_transomref01_Next_3 : Type := ByteArray → Int → Int → Int → Int → Int → Option (Int × Int × Int)
abbrev S_transomref01_Next_4 : Type := ByteArray → Int → Int → Int → Int → Option (Int × Int × Int)
def seg_transomref01_Next_0 (g : S_transomref01_Next_0) : Seg where
  path := [4, 1, 0, 1, 1, 1, 1, 1]
  prep := []
  keep := [0, 5, 6, 7, 8]
  F := fun tvs blks {β} K => match tvs, blks with
    | [.v (.one (.d .str x0)), .v (.one (.d (.int .i64) x1)), .v (.one (.d (.int .i64) x2)), .v (.one (.d (.int .i64) x3)), .v (.one (.d (.int .i64) x4))], [] => (g x0 x1 x2 x3 x4).bind fun r => K ⟨.tup [(.one (.d (.int .i64) r.1)), (.one (.d (.int .i64) r.2.1)), (.one (.d (.int .i64) r.2.2))], []⟩
    | _, _ => none
  legit := fun tvs blks K r h => by
    split at h
    · obtain ⟨x, hx, hk⟩ := Option.bind_eq_some_iff.1 h
      refine ⟨_, ?_, hk⟩
      simp only [hx, Option.bind_some]
    · simp at h
def seg_transomref01_Next_1 (g : S_transomref01_Next_1) : Seg where
  path := [4, 1, 0, 1, 1, 1, 1, 1, 1, 1]
  prep := []
  keep := [0, 5, 6, 7, 9]
  F := fun tvs blks {β} K => match tvs, blks with
    | [.v (.one (.d .str x0)), .v (.one (.d (.int .i64) x1)), .v (.one (.d (.int .i64) x2)), .v (.one (.d (.int .i64) x3)), .v (.one (.d (.int .i64) x4))], [] => (g x0 x1 x2 x3 x4).bind fun r => K ⟨.tup [(.one (.d (.int .i64) r.1)), (.one (.d (.int .i64) r.2.1)), (.one (.d (.int .i64) r.2.2))], []⟩
    | _, _ => none
  legit := fun tvs blks K r h => by
    split at h
    · obtain ⟨x, hx, hk⟩ := Option.bind_eq_some_iff.1 h
      refine ⟨_, ?_, hk⟩
      simp only [hx, Option.bind_some]
    · simp at h
def seg_transomref01_Next_2 (g : S_transomref01_Next_2) : Seg where
  path := [1, 0, 1, 1, 4, 0, 1, 5, 4, 1, 0, 1, 1, 1, 1, 1, 1, 1]
  prep := []
  keep := [0, 5, 6, 7, 9, 10, 60]
  F := fun tvs blks {β} K => match tvs, blks with
    | [.v (.one (.d .str x0)), .v (.one (.d (.int .i64) x1)), .v (.one (.d (.int .i64) x2)), .v (.one (.d (.int .i64) x3)), .v (.one (.d (.int .i64) x4)), .v (.one (.d (.int .i64) x5)), .v (.one (.d .bool x6))], [] => (g x0 x1 x2 x3 x4 x5 x6).bind fun r => K ⟨.tup [(.one (.d (.int .i64) r.1)), (.one (.d (.int .i64) r.2.1)), (.one (.d (.int .i64) r.2.2))], []⟩
    | _, _ => none
  legit := fun tvs blks K r h => by
    split at h
    · obtain ⟨x, hx, hk⟩ := Option.bind_eq_some_iff.1 h
      refine ⟨_, ?_, hk⟩
      simp only [hx, Option.bind_some]
    · simp at h
def seg_transomref01_Next_3 (g : S_transomref01_Next_3) : Seg where
  path := [1, 1, 1, 4, 0, 1, 5, 4, 1, 0, 1, 1, 1, 1, 1, 1, 1]
  prep := []
  keep := [0, 5, 6, 7, 9, 10]
  F := fun tvs blks {β} K => match tvs, blks with
    | [.v (.one (.d .str x0)), .v (.one (.d (.int .i64) x1)), .v (.one (.d (.int .i64) x2)), .v (.one (.d (.int .i64) x3)), .v (.one (.d (.int .i64) x4)), .v (.one (.d (.int .i64) x5))], [] => (g x0 x1 x2 x3 x4 x5).bind fun r => K ⟨.tup [(.one (.d (.int .i64) r.1)), (.one (.d (.int .i64) r.2.1)), (.one (.d (.int .i64) r.2.2))], []⟩
    | _, _ => none
  legit := fun tvs blks K r h => by
    split at h
    · obtain ⟨x, hx, hk⟩ := Option.bind_eq_some_iff.1 h
      refine ⟨_, ?_, hk⟩
      simp only [hx, Option.bind_some]
    · simp at h
def seg_transomref01_Next_4 (g : S_transomref01_Next_4) : Seg where
  path := [1, 1, 5, 4, 1, 0, 1, 1, 1, 1, 1, 1, 1]
  prep := []
  keep := [0, 5, 6, 7, 9]
  F := fun tvs blks {β} K => match tvs, blks with
    | [.v (.one (.d .str x0)), .v (.one (.d (.int .i64) x1)), .v (.one (.d (.int .i64) x2)), .v (.one (.d (.int .i64) x3)), .v (.one (.d (.int .i64) x4))], [] => (g x0 x1 x2 x3 x4).bind fun r => K ⟨.tup [(.one (.d (.int .i64) r.1)), (.one (.d (.int .i64) r.2.1)), (.one (.d (.int .i64) r.2.2))], []⟩
    | _, _ => none
  legit := fun tvs blks K r h => by
    split at h
    · obtain ⟨x, hx, hk⟩ := Option.bind_eq_some_iff.1 h
      refine ⟨_, ?_, hk⟩
      simp only [hx, Option.bind_some]
    · simp at h
noncomputable def env_transomref01_Next (g91 : G_transomref01_lead) (g92 : G_transomref01_among) (s0 : S_transomref01_Next_0) (s1 : S_transomref01_Next_1) (s2 : S_transomref01_Next_2) (s3 : S_transomref01_Next_3) (s4 : S_transomref01_Next_4) : FEnv := { P := Go.Proofs.Tryd.prog, ct := fun m => if m = 91 then some (ct_transomref01_lead g91) else if m = 92 then some (ct_transomref01_among g92) else none, N := 82, body := Go.Proofs.Tryd.f88.body.getD .skip, rvs := [.tmp 2, .tmp 3, .tmp 4], rts := [3, 3, 3], nin := 0, rmv := [], segs := [seg_transomref01_Next_0 s0, seg_transomref01_Next_1 s1, seg_transomref01_Next_2 s2, seg_transomref01_Next_3 s3, seg_transomref01_Next_4 s4] }
def transomref01_Next.c {β : Type} (g91 : G_transomref01_lead) (g92 : G_transomref01_among) (s0 : S_transomref01_Next_0) (s1 : S_transomref01_Next_1) (s2 : S_transomref01_Next_2) (s3 : S_transomref01_Next_3) (s4 : S_transomref01_Next_4) (a0 : ByteArray) (ret : (Int × Int × Int) → Option β) : Option β := (bif (((ByteArray.size a0) : Int) == (0 : Int)) then (ret ((0 : Int), (0 : Int), (3 : Int))) else (bif (true && (decide ((0 : Int) < ((ByteArray.size a0) : Int)))) then ((g91 (IntKind.wrap IntKind.i64 (bt a0 (0 : Int)))).bind fun r0 => (bif (r0.1 == (0 : Int)) then (ret ((0 : Int), (0 : Int), (7 : Int))) else ((s0 a0 r0.1 r0.2 (1 : Int) (1 : Int)).bind ret))) else none))
def transomref01_Next.s0c {β : Type} (g91 : G_transomref01_lead) (g92 : G_transomref01_among) (s0 : S_transomref01_Next_0) (s1 : S_transomref01_Next_1) (s2 : S_transomref01_Next_2) (s3 : S_transomref01_Next_3) (s4 : S_transomref01_Next_4) (x0 : ByteArray) (x1 : Int) (x2 : Int) (x3 : Int) (x4 : Int) (ret : (Int × Int × Int) → Option β) : Option β := (bif (decide (x4 < x1)) then ((s0 x0 x1 x2 (IntKind.wrap IntKind.i64 (x3 * (64 : Int))) (IntKind.wrap IntKind.i64 (x4 + (1 : Int)))).bind ret) else ((g92 (IntKind.wrap IntKind.i64 (x2 * x3)) (IntKind.wrap IntKind.i64 ((IntKind.wrap IntKind.i64 ((IntKind.wrap IntKind.i64 (x2 * x3)) + x3)) - (1 : Int))) x1).bind fun r0 => (bif (!r0) then (ret ((0 : Int), (0 : Int), (7 : Int))) else ((s1 x0 x1 x2 x3 (1 : Int)).bind ret))))
def transomref01_Next.s1c {β : Type} (g91 : G_transomref01_lead) (g92 : G_transomref01_among) (s0 : S_transomref01_Next_0) (s1 : S_transomref01_Next_1) (s2 : S_transomref01_Next_2) (s3 : S_transomref01_Next_3) (s4 : S_transomref01_Next_4) (x0 : ByteArray) (x1 : Int) (x2 : Int) (x3 : Int) (x4 : Int) (ret : (Int × Int × Int) → Option β) : Option β := (bif (decide (x4 < x1)) then (bif (decide (x4 ≥ ((ByteArray.size x0) : Int))) then (ret ((0 : Int), (0 : Int), (3 : Int))) else (bif ((decide ((0 : Int) ≤ x4)) && (decide (x4 < ((ByteArray.size x0) : Int)))) then (bif (decide ((IntKind.wrap IntKind.i64 (bt x0 x4)) < (128 : Int))) then ((s2 x0 x1 x2 x3 x4 (IntKind.wrap IntKind.i64 (bt x0 x4)) true).bind ret) else ((s2 x0 x1 x2 x3 x4 (IntKind.wrap IntKind.i64 (bt x0 x4)) (decide ((IntKind.wrap IntKind.i64 (bt x0 x4)) > (191 : Int)))).bind ret)) else none)) else (ret (x2, x1, (0 : Int))))
def transomref01_Next.s2c {β : Type} (g91 : G_transomref01_lead) (g92 : G_transomref01_among) (s0 : S_transomref01_Next_0) (s1 : S_transomref01_Next_1) (s2 : S_transomref01_Next_2) (s3 : S_transomref01_Next_3) (s4 : S_transomref01_Next_4) (x0 : ByteArray) (x1 : Int) (x2 : Int) (x3 : Int) (x4 : Int) (x5 : Int) (x6 : Bool) (ret : (Int × Int × Int) → Option β) : Option β := (bif x6 then (ret ((0 : Int), (0 : Int), (7 : Int))) else ((s3 x0 x1 x2 x3 x4 x5).bind ret))
def transomref01_Next.s3c {β : Type} (g91 : G_transomref01_lead) (g92 : G_transomref01_among) (s0 : S_transomref01_Next_0) (s1 : S_transomref01_Next_1) (s2 : S_transomref01_Next_2) (s3 : S_transomref01_Next_3) (s4 : S_transomref01_Next_4) (x0 : ByteArray) (x1 : Int) (x2 : Int) (x3 : Int) (x4 : Int) (x5 : Int) (ret : (Int × Int × Int) → Option β) : Option β := ((g92 (IntKind.wrap IntKind.i64 ((IntKind.wrap IntKind.i64 ((IntKind.wrap IntKind.i64 ((IntKind.wrap IntKind.i64 (x2 * (64 : Int))) + x5)) - (128 : Int))) * (IntKind.wrap IntKind.i64 (Int.tdiv x3 (64 : Int))))) (IntKind.wrap IntKind.i64 ((IntKind.wrap IntKind.i64 ((IntKind.wrap IntKind.i64 ((IntKind.wrap IntKind.i64 ((IntKind.wrap IntKind.i64 ((IntKind.wrap IntKind.i64 (x2 * (64 : Int))) + x5)) - (128 : Int))) * (IntKind.wrap IntKind.i64 (Int.tdiv x3 (64 : Int))))) + (IntKind.wrap IntKind.i64 (Int.tdiv x3 (64 : Int))))) - (1 : Int))) x1).bind fun r0 => (bif (!r0) then (ret ((0 : Int), (0 : Int), (7 : Int))) else ((s4 x0 x1 (IntKind.wrap IntKind.i64 ((IntKind.wrap IntKind.i64 ((IntKind.wrap IntKind.i64 (x2 * (64 : Int))) + x5)) - (128 : Int))) (IntKind.wrap IntKind.i64 (Int.tdiv x3 (64 : Int))) x4).bind ret)))
def transomref01_Next.s4c {β : Type} (g91 : G_transomref01_lead) (g92 : G_transomref01_among) (s0 : S_transomref01_Next_0) (s1 : S_transomref01_Next_1) (s2 : S_transomref01_Next_2) (s3 : S_transomref01_Next_3) (s4 : S_transomref01_Next_4) (x0 : ByteArray) (x1 : Int) (x2 : Int) (x3 : Int) (x4 : Int) (ret : (Int × Int × Int) → Option β) : Option β := ((s1 x0 x1 x2 x3 (IntKind.wrap IntKind.i64 (x4 + (1 : Int)))).bind ret)
theorem transomref01_Next.c_bind {β : Type} {g91 : G_transomref01_lead} {g92 : G_transomref01_among} {s0 : S_transomref01_Next_0} {s1 : S_transomref01_Next_1} {s2 : S_transomref01_Next_2} {s3 : S_transomref01_Next_3} {s4 : S_transomref01_Next_4} {a0 : ByteArray} {ret : (Int × Int × Int) → Option β} : transomref01_Next.c g91 g92 s0 s1 s2 s3 s4 a0 ret = (transomref01_Next.c g91 g92 s0 s1 s2 s3 s4 a0 some).bind ret := by
  simp only [transomref01_Next.c, bif_bind, sum_bind, Option.bind_assoc, Option.bind_some, Option.bind_none, Option.bind_fun_some]
theorem transomref01_Next.s0c_bind {β : Type} {g91 : G_transomref01_lead} {g92 : G_transomref01_among} {s0 : S_transomref01_Next_0} {s1 : S_transomref01_Next_1} {s2 : S_transomref01_Next_2} {s3 : S_transomref01_Next_3} {s4 : S_transomref01_Next_4} {x0 : ByteArray} {x1 : Int} {x2 : Int} {x3 : Int} {x4 : Int} {ret : (Int × Int × Int) → Option β} : transomref01_Next.s0c g91 g92 s0 s1 s2 s3 s4 x0 x1 x2 x3 x4 ret = (transomref01_Next.s0c g91 g92 s0 s1 s2 s3 s4 x0 x1 x2 x3 x4 some).bind ret := by
  simp only [transomref01_Next.s0c, bif_bind, sum_bind, Option.bind_assoc, Option.bind_some, Option.bind_none, Option.bind_fun_some]
theorem transomref01_Next.s1c_bind {β : Type} {g91 : G_transomref01_lead} {g92 : G_transomref01_among} {s0 : S_transomref01_Next_0} {s1 : S_transomref01_Next_1} {s2 : S_transomref01_Next_2} {s3 : S_transomref01_Next_3} {s4 : S_transomref01_Next_4} {x0 : ByteArray} {x1 : Int} {x2 : Int} {x3 : Int} {x4 : Int} {ret : (Int × Int × Int) → Option β} : transomref01_Next.s1c g91 g92 s0 s1 s2 s3 s4 x0 x1 x2 x3 x4 ret = (transomref01_Next.s1c g91 g92 s0 s1 s2 s3 s4 x0 x1 x2 x3 x4 some).bind ret := by
  simp only [transomref01_Next.s1c, bif_bind, sum_bind, Option.bind_assoc, Option.bind_some, Option.bind_none, Option.bind_fun_some]
theorem transomref01_Next.s2c_bind {β : Type} {g91 : G_transomref01_lead} {g92 : G_transomref01_among} {s0 : S_transomref01_Next_0} {s1 : S_transomref01_Next_1} {s2 : S_transomref01_Next_2} {s3 : S_transomref01_Next_3} {s4 : S_transomref01_Next_4} {x0 : ByteArray} {x1 : Int} {x2 : Int} {x3 : Int} {x4 : Int} {x5 : Int} {x6 : Bool} {ret : (Int × Int × Int) → Option β} : transomref01_Next.s2c g91 g92 s0 s1 s2 s3 s4 x0 x1 x2 x3 x4 x5 x6 ret = (transomref01_Next.s2c g91 g92 s0 s1 s2 s3 s4 x0 x1 x2 x3 x4 x5 x6 some).bind ret := by
  simp only [transomref01_Next.s2c, bif_bind, sum_bind, Option.bind_assoc, Option.bind_some, Option.bind_none, Option.bind_fun_some]
theorem transomref01_Next.s3c_bind {β : Type} {g91 : G_transomref01_lead} {g92 : G_transomref01_among} {s0 : S_transomref01_Next_0} {s1 : S_transomref01_Next_1} {s2 : S_transomref01_Next_2} {s3 : S_transomref01_Next_3} {s4 : S_transomref01_Next_4} {x0 : ByteArray} {x1 : Int} {x2 : Int} {x3 : Int} {x4 : Int} {x5 : Int} {ret : (Int × Int × Int) → Option β} : transomref01_Next.s3c g91 g92 s0 s1 s2 s3 s4 x0 x1 x2 x3 x4 x5 ret = (transomref01_Next.s3c g91 g92 s0 s1 s2 s3 s4 x0 x1 x2 x3 x4 x5 some).bind ret := by
  simp only [transomref01_Next.s3c, bif_bind, sum_bind, Option.bind_assoc, Option.bind_some, Option.bind_none, Option.bind_fun_some]
theorem transomref01_Next.s4c_bind {β : Type} {g91 : G_transomref01_lead} {g92 : G_transomref01_among} {s0 : S_transomref01_Next_0} {s1 : S_transomref01_Next_1} {s2 : S_transomref01_Next_2} {s3 : S_transomref01_Next_3} {s4 : S_transomref01_Next_4} {x0 : ByteArray} {x1 : Int} {x2 : Int} {x3 : Int} {x4 : Int} {ret : (Int × Int × Int) → Option β} : transomref01_Next.s4c g91 g92 s0 s1 s2 s3 s4 x0 x1 x2 x3 x4 ret = (transomref01_Next.s4c g91 g92 s0 s1 s2 s3 s4 x0 x1 x2 x3 x4 some).bind ret := by
  simp only [transomref01_Next.s4c, bif_bind, sum_bind, Option.bind_assoc, Option.bind_some, Option.bind_none, Option.bind_fun_some]
theorem transomref01_Next.ev {g91 : G_transomref01_lead} {g92 : G_transomref01_among} {s0 : S_transomref01_Next_0} {s1 : S_transomref01_Next_1} {s2 : S_transomref01_Next_2} {s3 : S_transomref01_Next_3} {s4 : S_transomref01_Next_4} {a0 : ByteArray} : evAt (env_transomref01_Next g91 g92 s0 s1 s2 s3 s4) [] [0] [.v (.one (.d .str a0))] [] some = transomref01_Next.c g91 g92 s0 s1 s2 s3 s4 a0 (fun r => some ⟨.tup [(.one (.d (.int .i64) r.1)), (.one (.d (.int .i64) r.2.1)), (.one (.d (.int .i64) r.2.2))], []⟩) := by
  kernel_rfl
theorem transomref01_Next.s0_ev {g91 : G_transomref01_lead} {g92 : G_transomref01_among} {s0 : S_transomref01_Next_0} {s1 : S_transomref01_Next_1} {s2 : S_transomref01_Next_2} {s3 : S_transomref01_Next_3} {s4 : S_transomref01_Next_4} {x0 : ByteArray} {x1 : Int} {x2 : Int} {x3 : Int} {x4 : Int} : evAt (env_transomref01_Next g91 g92 s0 s1 s2 s3 s4) [4, 1, 0, 1, 1, 1, 1, 1] [0, 5, 6, 7, 8] [.v (.one (.d .str x0)), .v (.one (.d (.int .i64) x1)), .v (.one (.d (.int .i64) x2)), .v (.one (.d (.int .i64) x3)), .v (.one (.d (.int .i64) x4))] [] some = transomref01_Next.s0c g91 g92 s0 s1 s2 s3 s4 x0 x1 x2 x3 x4 (fun r => some ⟨.tup [(.one (.d (.int .i64) r.1)), (.one (.d (.int .i64) r.2.1)), (.one (.d (.int .i64) r.2.2))], []⟩) := by
  kernel_rfl
theorem transomref01_Next.s1_ev {g91 : G_transomref01_lead} {g92 : G_transomref01_among} {s0 : S_transomref01_Next_0} {s1 : S_transomref01_Next_1} {s2 : S_transomref01_Next_2} {s3 : S_transomref01_Next_3} {s4 : S_transomref01_Next_4} {x0 : ByteArray} {x1 : Int} {x2 : Int} {x3 : Int} {x4 : Int} : evAt (env_transomref01_Next g91 g92 s0 s1 s2 s3 s4) [4, 1, 0, 1, 1, 1, 1, 1, 1, 1] [0, 5, 6, 7, 9] [.v (.one (.d .str x0)), .v (.one (.d (.int .i64) x1)), .v (.one (.d (.int .i64) x2)), .v (.one (.d (.int .i64) x3)), .v (.one (.d (.int .i64) x4))] [] some = transomref01_Next.s1c g91 g92 s0 s1 s2 s3 s4 x0 x1 x2 x3 x4 (fun r => some ⟨.tup [(.one (.d (.int .i64) r.1)), (.one (.d (.int .i64) r.2.1)), (.one (.d (.int .i64) r.2.2))], []⟩) := by
  kernel_rfl
theorem transomref01_Next.s2_ev {g91 : G_transomref01_lead} {g92 : G_transomref01_among} {s0 : S_transomref01_Next_0} {s1 : S_transomref01_Next_1} {s2 : S_transomref01_Next_2} {s3 : S_transomref01_Next_3} {s4 : S_transomref01_Next_4} {x0 : ByteArray} {x1 : Int} {x2 : Int} {x3 : Int} {x4 : Int} {x5 : Int} {x6 : Bool} : evAt (env_transomref01_Next g91 g92 s0 s1 s2 s3 s4) [1, 0, 1, 1, 4, 0, 1, 5, 4, 1, 0, 1, 1, 1, 1, 1, 1, 1] [0, 5, 6, 7, 9, 10, 60] [.v (.one (.d .str x0)), .v (.one (.d (.int .i64) x1)), .v (.one (.d (.int .i64) x2)), .v (.one (.d (.int .i64) x3)), .v (.one (.d (.int .i64) x4)), .v (.one (.d (.int .i64) x5)), .v (.one (.d .bool x6))] [] some = transomref01_Next.s2c g91 g92 s0 s1 s2 s3 s4 x0 x1 x2 x3 x4 x5 x6 (fun r => some ⟨.tup [(.one (.d (.int .i64) r.1)), (.one (.d (.int .i64) r.2.1)), (.one (.d (.int .i64) r.2.2))], []⟩) := by
  kernel_rfl
theorem transomref01_Next.s3_ev {g91 : G_transomref01_lead} {g92 : G_transomref01_among} {s0 : S_transomref01_Next_0} {s1 : S_transomref01_Next_1} {s2 : S_transomref01_Next_2} {s3 : S_transomref01_Next_3} {s4 : S_transomref01_Next_4} {x0 : ByteArray} {x1 : Int} {x2 : Int} {x3 : Int} {x4 : Int} {x5 : Int} : evAt (env_transomref01_Next g91 g92 s0 s1 s2 s3 s4) [1, 1, 1, 4, 0, 1, 5, 4, 1, 0, 1, 1, 1, 1, 1, 1, 1] [0, 5, 6, 7, 9, 10] [.v (.one (.d .str x0)), .v (.one (.d (.int .i64) x1)), .v (.one (.d (.int .i64) x2)), .v (.one (.d (.int .i64) x3)), .v (.one (.d (.int .i64) x4)), .v (.one (.d (.int .i64) x5))] [] some = transomref01_Next.s3c g91 g92 s0 s1 s2 s3 s4 x0 x1 x2 x3 x4 x5 (fun r => some ⟨.tup [(.one (.d (.int .i64) r.1)), (.one (.d (.int .i64) r.2.1)), (.one (.d (.int .i64) r.2.2))], []⟩) := by
  kernel_rfl
theorem transomref01_Next.s4_ev {g91 : G_transomref01_lead} {g92 : G_transomref01_among} {s0 : S_transomref01_Next_0} {s1 : S_transomref01_Next_1} {s2 : S_transomref01_Next_2} {s3 : S_transomref01_Next_3} {s4 : S_transomref01_Next_4} {x0 : ByteArray} {x1 : Int} {x2 : Int} {x3 : Int} {x4 : Int} : evAt (env_transomref01_Next g91 g92 s0 s1 s2 s3 s4) [1, 1, 5, 4, 1, 0, 1, 1, 1, 1, 1, 1, 1] [0, 5, 6, 7, 9] [.v (.one (.d .str x0)), .v (.one (.d (.int .i64) x1)), .v (.one (.d (.int .i64) x2)), .v (.one (.d (.int .i64) x3)), .v (.one (.d (.int .i64) x4))] [] some = transomref01_Next.s4c g91 g92 s0 s1 s2 s3 s4 x0 x1 x2 x3 x4 (fun r => some ⟨.tup [(.one (.d (.int .i64) r.1)), (.one (.d (.int .i64) r.2.1)), (.one (.d (.int .i64) r.2.2))], []⟩) := by
  kernel_rfl
mutual
def transomref01_Next.s0 : Nat → ByteArray → Int → Int → Int → Int → Option (Int × Int × Int)
  | 0, _, _, _, _, _ => none
  | k + 1, x0, x1, x2, x3, x4 => transomref01_Next.s0c (transomref01_lead.f k) (transomref01_among.f k) (transomref01_Next.s0 k) (transomref01_Next.s1 k) (transomref01_Next.s2 k) (transomref01_Next.s3 k) (transomref01_Next.s4 k) x0 x1 x2 x3 x4 some
def transomref01_Next.s1 : Nat → ByteArray → Int → Int → Int → Int → Option (Int × Int × Int)
  | 0, _, _, _, _, _ => none
  | k + 1, x0, x1, x2, x3, x4 => transomref01_Next.s1c (transomref01_lead.f k) (transomref01_among.f k) (transomref01_Next.s0 k) (transomref01_Next.s1 k) (transomref01_Next.s2 k) (transomref01_Next.s3 k) (transomref01_Next.s4 k) x0 x1 x2 x3 x4 some
def transomref01_Next.s2 : Nat → ByteArray → Int → Int → Int → Int → Int → Bool → Option (Int × Int × Int)
  | 0, _, _, _, _, _, _, _ => none
  | k + 1, x0, x1, x2, x3, x4, x5, x6 => transomref01_Next.s2c (transomref01_lead.f k) (transomref01_among.f k) (transomref01_Next.s0 k) (transomref01_Next.s1 k) (transomref01_Next.s2 k) (transomref01_Next.s3 k) (transomref01_Next.s4 k) x0 x1 x2 x3 x4 x5 x6 some
def transomref01_Next.s3 : Nat → ByteArray → Int → Int → Int → Int → Int → Option (Int × Int × Int)
  | 0, _, _, _, _, _, _ => none
  | k + 1, x0, x1, x2, x3, x4, x5 => transomref01_Next.s3c (transomref01_lead.f k) (transomref01_among.f k) (transomref01_Next.s0 k) (transomref01_Next.s1 k) (transomref01_Next.s2 k) (transomref01_Next.s3 k) (transomref01_Next.s4 k) x0 x1 x2 x3 x4 x5 some
def transomref01_Next.s4 : Nat → ByteArray → Int → Int → Int → Int → Option (Int × Int × Int)
  | 0, _, _, _, _, _ => none
  | k + 1, x0, x1, x2, x3, x4 => transomref01_Next.s4c (transomref01_lead.f k) (transomref01_among.f k) (transomref01_Next.s0 k) (transomref01_Next.s1 k) (transomref01_Next.s2 k) (transomref01_Next.s3 k) (transomref01_Next.s4 k) x0 x1 x2 x3 x4 some
end
def transomref01_Next.f (k : Nat) (a0 : ByteArray) : Option (Int × Int × Int) := transomref01_Next.c (transomref01_lead.f k) (transomref01_among.f k) (transomref01_Next.s0 k) (transomref01_Next.s1 k) (transomref01_Next.s2 k) (transomref01_Next.s3 k) (transomref01_Next.s4 k) a0 some
theorem transomref01_Next.is {g91 : G_transomref01_lead} {g92 : G_transomref01_among} {s0 : S_transomref01_Next_0} {s1 : S_transomref01_Next_1} {s2 : S_transomref01_Next_2} {s3 : S_transomref01_Next_3} {s4 : S_transomref01_Next_4} : FnIs (env_transomref01_Next g91 g92 s0 s1 s2 s3 s4) 88 Go.Proofs.Tryd.f88 := ⟨Go.Proofs.Tryd.func88, rfl, rfl, rfl, by decide⟩
theorem transomref01_Next.envok {g91 : G_transomref01_lead} {g92 : G_transomref01_among} {s0 : S_transomref01_Next_0} {s1 : S_transomref01_Next_1} {s2 : S_transomref01_Next_2} {s3 : S_transomref01_Next_3} {s4 : S_transomref01_Next_4} (h91 : CtOK Go.Proofs.Tryd.prog 91 (ct_transomref01_lead g91)) (h92 : CtOK Go.Proofs.Tryd.prog 92 (ct_transomref01_among g92)) : EnvOK (env_transomref01_Next g91 g92 s0 s1 s2 s3 s4).toEnv := by
  intro f c h
  simp only [env_transomref01_Next] at h
  split at h
  · rename_i e; subst e; cases h; exact h91
  split at h
  · rename_i e; subst e; cases h; exact h92
  simp at h
noncomputable abbrev transomref01_Next.E (k : Nat) : FEnv := env_transomref01_Next (transomref01_lead.f k) (transomref01_among.f k) (transomref01_Next.s0 k) (transomref01_Next.s1 k) (transomref01_Next.s2 k) (transomref01_Next.s3 k) (transomref01_Next.s4 k)
theorem transomref01_Next.hE (k : Nat) : EnvOK (transomref01_Next.E k).toEnv := transomref01_Next.envok (transomref01_lead.ok k) (transomref01_among.ok k)
theorem transomref01_Next.segs_ok : ∀ k, ∀ s ∈ (transomref01_Next.E k).segs, SegOK (transomref01_Next.E k) Go.Proofs.Tryd.f88 s
  | 0 => by
    intro s hs
    simp only [transomref01_Next.E, env_transomref01_Next, List.mem_cons, List.not_mem_nil, or_false] at hs
    rcases hs with rfl | rfl | rfl | rfl | rfl
    · intro tvs blks res h; exfalso; simp only [seg_transomref01_Next_0] at h; split at h <;> simp [transomref01_Next.s0] at h
    · intro tvs blks res h; exfalso; simp only [seg_transomref01_Next_1] at h; split at h <;> simp [transomref01_Next.s1] at h
    · intro tvs blks res h; exfalso; simp only [seg_transomref01_Next_2] at h; split at h <;> simp [transomref01_Next.s2] at h
    · intro tvs blks res h; exfalso; simp only [seg_transomref01_Next_3] at h; split at h <;> simp [transomref01_Next.s3] at h
    · intro tvs blks res h; exfalso; simp only [seg_transomref01_Next_4] at h; split at h <;> simp [transomref01_Next.s4] at h
  | k + 1 => by
    intro s hs
    simp only [transomref01_Next.E, env_transomref01_Next, List.mem_cons, List.not_mem_nil, or_false] at hs
    rcases hs with rfl | rfl | rfl | rfl | rfl
    · refine seg_of_ev (E := transomref01_Next.E k) (transomref01_Next.hE k) ⟨transomref01_Next.is.rvs⟩ (transomref01_Next.segs_ok k) ?_
      intro tvs blks res h
      simp only [seg_transomref01_Next_0] at h
      split at h
      · exact (transomref01_Next.s0_ev.trans transomref01_Next.s0c_bind).trans h
      · simp at h
    · refine seg_of_ev (E := transomref01_Next.E k) (transomref01_Next.hE k) ⟨transomref01_Next.is.rvs⟩ (transomref01_Next.segs_ok k) ?_
      intro tvs blks res h
      simp only [seg_transomref01_Next_1] at h
      split at h
      · exact (transomref01_Next.s1_ev.trans transomref01_Next.s1c_bind).trans h
      · simp at h
    · refine seg_of_ev (E := transomref01_Next.E k) (transomref01_Next.hE k) ⟨transomref01_Next.is.rvs⟩ (transomref01_Next.segs_ok k) ?_
      intro tvs blks res h
      simp only [seg_transomref01_Next_2] at h
      split at h
      · exact (transomref01_Next.s2_ev.trans transomref01_Next.s2c_bind).trans h
      · simp at h
    · refine seg_of_ev (E := transomref01_Next.E k) (transomref01_Next.hE k) ⟨transomref01_Next.is.rvs⟩ (transomref01_Next.segs_ok k) ?_
      intro tvs blks res h
      simp only [seg_transomref01_Next_3] at h
      split at h
      · exact (transomref01_Next.s3_ev.trans transomref01_Next.s3c_bind).trans h
      · simp at h
    · refine seg_of_ev (E := transomref01_Next.E k) (transomref01_Next.hE k) ⟨transomref01_Next.is.rvs⟩ (transomref01_Next.segs_ok k) ?_
      intro tvs blks res h
      simp only [seg_transomref01_Next_4] at h
      split at h
      · exact (transomref01_Next.s4_ev.trans transomref01_Next.s4c_bind).trans h
      · simp at h
theorem transomref01_Next.ok (k : Nat) : CtOK Go.Proofs.Tryd.prog 88 (ct_transomref01_Next (transomref01_Next.f k)) := by
  refine ct_of_ev (E := transomref01_Next.E k) transomref01_Next.is (transomref01_Next.hE k) (transomref01_Next.segs_ok k) rfl ?_
  intro tvs blks res h
  simp only [ct_transomref01_Next] at h
  split at h
  · exact (transomref01_Next.ev.trans transomref01_Next.c_bind).trans h
  · simp at h

/-! ### transomref01_Count: function 72 -/
abbrev G_transomref01_Count : Type := ByteArray → Option Int
def ct_transomref01_Count (g : G_transomref01_Count) : Ct where
  nin := 0
  mv := []
  F := fun tvs blks {β} K => match tvs, blks with
    | [.v (.one (.d .str a0))], [] => (g a0).bind fun r => K ⟨.v (.one (.d (.int .i64) r)), []⟩
    | _, _ => none
  legit := fun tvs blks K r h => by
    split at h
    · obtain ⟨x, hx, hk⟩ := Option.bind_eq_some_iff.1 h
      refine ⟨_, ?_, hk⟩
      simp only [hx, Option.bind_some]
    · simp at h
abbrev S_transomref01_Count_0 : Type := ByteArray → Int → Int → Option Int
def seg_transomref01_Count_0 (g : S_transomref01_Count_0) : Seg where
  path := [4, 1, 0, 1, 1]
  prep := []
  keep := [0, 3, 4]
  F := fun tvs blks {β} K => match tvs, blks with
    | [.v (.one (.d .str x0)), .v (.one (.d (.int .i64) x1)), .v (.one (.d (.int .i64) x2))], [] => (g x0 x1 x2).bind fun r => K ⟨.v (.one (.d (.int .i64) r)), []⟩
    | _, _ => none
  legit := fun tvs blks K r h => by
    split at h
    · obtain ⟨x, hx, hk⟩ := Option.bind_eq_some_iff.1 h
      refine ⟨_, ?_, hk⟩
      simp only [hx, Option.bind_some]
    · simp at h
noncomputable def env_transomref01_Count (g88 : G_transomref01_Next) (s0 : S_transomref01_Count_0) : FEnv := { P := Go.Proofs.Tryd.prog, ct := fun m => if m = 88 then some (ct_transomref01_Next g88) else none, N := 28, body := Go.Proofs.Tryd.f72.body.getD .skip, rvs := [.tmp 2], rts := [3], nin := 0, rmv := [], segs := [seg_transomref01_Count_0 s0] }
def transomref01_Count.c {β : Type} (g88 : G_transomref01_Next) (s0 : S_transomref01_Count_0) (a0 : ByteArray) (ret : Int → Option β) : Option β := ((s0 a0 (0 : Int) (0 : Int)).bind ret)
def transomref01_Count.s0c {β : Type} (g88 : G_transomref01_Next) (s0 : S_transomref01_Count_0) (x0 : ByteArray) (x1 : Int) (x2 : Int) (ret : Int → Option β) : Option β := (bif (decide (x2 < ((ByteArray.size x0) : Int))) then (bif (((decide ((0 : Int) ≤ x2)) && (decide (x2 ≤ ((ByteArray.size x0) : Int)))) && (decide (((ByteArray.size x0) : Int) ≤ ((ByteArray.size x0) : Int)))) then ((g88 (ByteArray.extract x0 (Int.toNat x2) (Int.toNat ((ByteArray.size x0) : Int)))).bind fun r0 => (bif (r0.2.2 != (0 : Int)) then (ret ((-1 : Int))) else ((s0 x0 (IntKind.wrap IntKind.i64 (x1 + (1 : Int))) (IntKind.wrap IntKind.i64 (x2 + r0.2.1))).bind ret))) else none) else (ret (x1)))
theorem transomref01_Count.c_bind {β : Type} {g88 : G_transomref01_Next} {s0 : S_transomref01_Count_0} {a0 : ByteArray} {ret : Int → Option β} : transomref01_Count.c g88 s0 a0 ret = (transomref01_Count.c g88 s0 a0 some).bind ret := by
  simp only [transomref01_Count.c, bif_bind, sum_bind, Option.bind_assoc, Option.bind_some, Option.bind_none, Option.bind_fun_some]
theorem transomref01_Count.s0c_bind {β : Type} {g88 : G_transomref01_Next} {s0 : S_transomref01_Count_0} {x0 : ByteArray} {x1 : Int} {x2 : Int} {ret : Int → Option β} : transomref01_Count.s0c g88 s0 x0 x1 x2 ret = (transomref01_Count.s0c g88 s0 x0 x1 x2 some).bind ret := by
  simp only [transomref01_Count.s0c, bif_bind, sum_bind, Option.bind_assoc, Option.bind_some, Option.bind_none, Option.bind_fun_some]
theorem transomref01_Count.ev {g88 : G_transomref01_Next} {s0 : S_transomref01_Count_0} {a0 : ByteArray} : evAt (env_transomref01_Count g88 s0) [] [0] [.v (.one (.d .str a0))] [] some = transomref01_Count.c g88 s0 a0 (fun r => some ⟨.v (.one (.d (.int .i64) r)), []⟩) := by
  kernel_rfl
theorem transomref01_Count.s0_ev {g88 : G_transomref01_Next} {s0 : S_transomref01_Count_0} {x0 : ByteArray} {x1 : Int} {x2 : Int} : evAt (env_transomref01_Count g88 s0) [4, 1, 0, 1, 1] [0, 3, 4] [.v (.one (.d .str x0)), .v (.one (.d (.int .i64) x1)), .v (.one (.d (.int .i64) x2))] [] some = transomref01_Count.s0c g88 s0 x0 x1 x2 (fun r => some ⟨.v (.one (.d (.int .i64) r)), []⟩) := by
  kernel_rfl
def transomref01_Count.s0 : Nat → ByteArray → Int → Int → Option Int
  | 0, _, _, _ => none
  | k + 1, x0, x1, x2 => transomref01_Count.s0c (transomref01_Next.f k) (transomref01_Count.s0 k) x0 x1 x2 some
def transomref01_Count.f (k : Nat) (a0 : ByteArray) : Option Int := transomref01_Count.c (transomref01_Next.f k) (transomref01_Count.s0 k) a0 some
theorem transomref01_Count.is {g88 : G_transomref01_Next} {s0 : S_transomref01_Count_0} : FnIs (env_transomref01_Count g88 s0) 72 Go.Proofs.Tryd.f72 := ⟨Go.Proofs.Tryd.func72, rfl, rfl, rfl, by decide⟩
theorem transomref01_Count.envok {g88 : G_transomref01_Next} {s0 : S_transomref01_Count_0} (h88 : CtOK Go.Proofs.Tryd.prog 88 (ct_transomref01_Next g88)) : EnvOK (env_transomref01_Count g88 s0).toEnv := by
  intro f c h
  simp only [env_transomref01_Count] at h
  split at h
  · rename_i e; subst e; cases h; exact h88
  simp at h
noncomputable abbrev transomref01_Count.E (k : Nat) : FEnv := env_transomref01_Count (transomref01_Next.f k) (transomref01_Count.s0 k)
theorem transomref01_Count.hE (k : Nat) : EnvOK (transomref01_Count.E k).toEnv := transomref01_Count.envok (transomref01_Next.ok k)
theorem transomref01_Count.segs_ok : ∀ k, ∀ s ∈ (transomref01_Count.E k).segs, SegOK (transomref01_Count.E k) Go.Proofs.Tryd.f72 s
  | 0 => by
    intro s hs
    simp only [transomref01_Count.E, env_transomref01_Count, List.mem_cons, List.not_mem_nil, or_false] at hs
    rcases hs with rfl
    · intro tvs blks res h; exfalso; simp only [seg_transomref01_Count_0] at h; split at h <;> simp [transomref01_Count.s0] at h
  | k + 1 => by
    intro s hs
    simp only [transomref01_Count.E, env_transomref01_Count, List.mem_cons, List.not_mem_nil, or_false] at hs
    rcases hs with rfl
    · refine seg_of_ev (E := transomref01_Count.E k) (transomref01_Count.hE k) ⟨transomref01_Count.is.rvs⟩ (transomref01_Count.segs_ok k) ?_
      intro tvs blks res h
      simp only [seg_transomref01_Count_0] at h
      split at h
      · exact (transomref01_Count.s0_ev.trans transomref01_Count.s0c_bind).trans h
      · simp at h
theorem transomref01_Count.ok (k : Nat) : CtOK Go.Proofs.Tryd.prog 72 (ct_transomref01_Count (transomref01_Count.f k)) := by
  refine ct_of_ev (E := transomref01_Count.E k) transomref01_Count.is (transomref01_Count.hE k) (transomref01_Count.segs_ok k) rfl ?_
  intro tvs blks res h
  simp only [ct_transomref01_Count] at h
  split at h
  · exact (transomref01_Count.ev.trans transomref01_Count.c_bind).trans h
  · simp at h

/-! ### transomref01_Valid: function 52 -/
abbrev G_transomref01_Valid : Type := ByteArray → Option Bool
def ct_transomref01_Valid (g : G_transomref01_Valid) : Ct where
  nin := 0
  mv := []
  F := fun tvs blks {β} K => match tvs, blks with
    | [.v (.one (.d .str a0))], [] => (g a0).bind fun r => K ⟨.v (.one (.d .bool r)), []⟩
    | _, _ => none
  legit := fun tvs blks K r h => by
    split at h
    · obtain ⟨x, hx, hk⟩ := Option.bind_eq_some_iff.1 h
      refine ⟨_, ?_, hk⟩
      simp only [hx, Option.bind_some]
    · simp at h
noncomputable def env_transomref01_Valid (g72 : G_transomref01_Count)  : FEnv := { P := Go.Proofs.Tryd.prog, ct := fun m => if m = 72 then some (ct_transomref01_Count g72) else none, N := 6, body := Go.Proofs.Tryd.f52.body.getD .skip, rvs := [.tmp 2], rts := [4], nin := 0, rmv := [], segs := [] }
def transomref01_Valid.c {β : Type} (g72 : G_transomref01_Count)  (a0 : ByteArray) (ret : Bool → Option β) : Option β := ((g72 a0).bind fun r0 => (ret ((decide (r0 ≥ (0 : Int))))))
theorem transomref01_Valid.c_bind {β : Type} {g72 : G_transomref01_Count}  {a0 : ByteArray} {ret : Bool → Option β} : transomref01_Valid.c g72  a0 ret = (transomref01_Valid.c g72  a0 some).bind ret := by
  simp only [transomref01_Valid.c, bif_bind, sum_bind, Option.bind_assoc, Option.bind_some, Option.bind_none, Option.bind_fun_some]
theorem transomref01_Valid.ev {g72 : G_transomref01_Count}  {a0 : ByteArray} : evAt (env_transomref01_Valid g72 ) [] [0] [.v (.one (.d .str a0))] [] some = transomref01_Valid.c g72  a0 (fun r => some ⟨.v (.one (.d .bool r)), []⟩) := by
  kernel_rfl
def transomref01_Valid.f (k : Nat) (a0 : ByteArray) : Option Bool := transomref01_Valid.c (transomref01_Count.f k)  a0 some
theorem transomref01_Valid.is {g72 : G_transomref01_Count}  : FnIs (env_transomref01_Valid g72 ) 52 Go.Proofs.Tryd.f52 := ⟨Go.Proofs.Tryd.func52, rfl, rfl, rfl, by decide⟩
theorem transomref01_Valid.envok {g72 : G_transomref01_Count}  (h72 : CtOK Go.Proofs.Tryd.prog 72 (ct_transomref01_Count g72)) : EnvOK (env_transomref01_Valid g72 ).toEnv := by
  intro f c h
  simp only [env_transomref01_Valid] at h
  split at h
  · rename_i e; subst e; cases h; exact h72
  simp at h
noncomputable abbrev transomref01_Valid.E (k : Nat) : FEnv := env_transomref01_Valid (transomref01_Count.f k) 
theorem transomref01_Valid.hE (k : Nat) : EnvOK (transomref01_Valid.E k).toEnv := transomref01_Valid.envok (transomref01_Count.ok k)
theorem transomref01_Valid.ok (k : Nat) : CtOK Go.Proofs.Tryd.prog 52 (ct_transomref01_Valid (transomref01_Valid.f k)) := by
  refine ct_of_ev (E := transomref01_Valid.E k) transomref01_Valid.is (transomref01_Valid.hE k) (fun s hs => by simp [transomref01_Valid.E, env_transomref01_Valid] at hs) rfl ?_
  intro tvs blks res h
  simp only [ct_transomref01_Valid] at h
  split at h
  · exact (transomref01_Valid.ev.trans transomref01_Valid.c_bind).trans h
  · simp at h
end Go.Proofs.YtddlebbjaadbeaaDoor.Aev
