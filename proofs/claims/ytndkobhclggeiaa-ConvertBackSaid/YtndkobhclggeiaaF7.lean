/- By a program of this session (AEV): functions of the program as plain functions, and that the machine does what they say. -/
import Derived.Test.YtndkobhclggeiaaAevW
import Derived.Test.YtndkobhclggeiaaProg
import Derived.Laws.Externs
import Derived.Lib.Bytealg
import Derived.Test.YtndkobhclggeiaaF6
namespace Go.Proofs.Ytndkobhclggeiaa.Aev
set_option linter.unusedVariables false
set_option linter.unusedSimpArgs false
set_option maxRecDepth 100000
set_option maxHeartbeats 4000000
open Go
/-! ### transomref01_Next: function 60 -/
def ct_transomref01_Next (g : ByteArray → Option (Int × Int × Int)) : Ct where
  nin := 0
  mv := []
  F := fun tvs blks {β} K => match tvs, blks with
    | [.v (.one (.d .str a0))], [] => (g a0).bind fun r => K ⟨.tup [(.one (.d (.int .i64) r.1)), (.one (.d (.int .i64) r.2.1)), (.one (.d (.int .i64) r.2.2))], []⟩
    | _, _ => none
  legit := fun tvs blks K r h => by
    split at h
    · obtain ⟨x, hx, hk⟩ := Option.bind_eq_some_iff.1 h
      refine ⟨_, ?_, hk⟩
      simp only [hx, Option.bind_some]
    · simp at h
def seg_transomref01_Next_0 (g : ByteArray → Int → Int → Int → Int → Option (Int × Int × Int)) : Seg where
  path := [4, 1, 0, 1, 1, 1, 1, 1]
  prep := []
  keep := [0, 5, 6, 7, 8]
  F := fun tvs blks {β} K => match tvs, blks with
    | [.v (.one (.d .str x0)), .v (.one (.d (.int .i64) x1)), .v (.one (.d (.int .i64) x2)), .v (.one (.d (.int .i64) x3)), .v (.one (.d (.int .i64) x4))], [] => (g x0 x1 x2 x3 x4).bind fun r => K ⟨.tup [(.one (.d (.int .i64) r.1)), (.one (.d (.int .i64) r.2.1)), (.one (.d (.int .i64) r.2.2))], []⟩
    | _, _ => none
  legit := fun tvs blks K r h => by
    split at h
    · obtain ⟨x, hx, hk⟩ := Option.bind_eq_some_iff.1 h
      refine ⟨_, ?_, hk⟩
      simp only [hx, Option.bind_some]
    · simp at h
def seg_transomref01_Next_1 (g : ByteArray → Int → Int → Int → Int → Option (Int × Int × Int)) : Seg where
  path := [4, 1, 0, 1, 1, 1, 1, 1, 1, 1]
  prep := []
  keep := [0, 5, 6, 7, 9]
  F := fun tvs blks {β} K => match tvs, blks with
    | [.v (.one (.d .str x0)), .v (.one (.d (.int .i64) x1)), .v (.one (.d (.int .i64) x2)), .v (.one (.d (.int .i64) x3)), .v (.one (.d (.int .i64) x4))], [] => (g x0 x1 x2 x3 x4).bind fun r => K ⟨.tup [(.one (.d (.int .i64) r.1)), (.one (.d (.int .i64) r.2.1)), (.one (.d (.int .i64) r.2.2))], []⟩
    | _, _ => none
  legit := fun tvs blks K r h => by
    split at h
    · obtain ⟨x, hx, hk⟩ := Option.bind_eq_some_iff.1 h
      refine ⟨_, ?_, hk⟩
      simp only [hx, Option.bind_some]
    · simp at h
def seg_transomref01_Next_2 (g : ByteArray → Int → Int → Int → Int → Int → Bool → Option (Int × Int × Int)) : Seg where
  path := [1, 0, 1, 1, 4, 0, 1, 5, 4, 1, 0, 1, 1, 1, 1, 1, 1, 1]
  prep := []
  keep := [0, 5, 6, 7, 9, 10, 60]
  F := fun tvs blks {β} K => match tvs, blks with
    | [.v (.one (.d .str x0)), .v (.one (.d (.int .i64) x1)), .v (.one (.d (.int .i64) x2)), .v (.one (.d (.int .i64) x3)), .v (.one (.d (.int .i64) x4)), .v (.one (.d (.int .i64) x5)), .v (.one (.d .bool x6))], [] => (g x0 x1 x2 x3 x4 x5 x6).bind fun r => K ⟨.tup [(.one (.d (.int .i64) r.1)), (.one (.d (.int .i64) r.2.1)), (.one (.d (.int .i64) r.2.2))], []⟩
    | _, _ => none
  legit := fun tvs blks K r h => by
    split at h
    · obtain ⟨x, hx, hk⟩ := Option.bind_eq_some_iff.1 h
      refine ⟨_, ?_, hk⟩
      simp only [hx, Option.bind_some]
    · simp at h
def seg_transomref01_Next_3 (g : ByteArray → Int → Int → Int → Int → Int → Option (Int × Int × Int)) : Seg where
  path := [1, 1, 1, 4, 0, 1, 5, 4, 1, 0, 1, 1, 1, 1, 1, 1, 1]
  prep := []
  keep := [0, 5, 6, 7, 9, 10]
  F := fun tvs blks {β} K => match tvs, blks with
    | [.v (.one (.d .str x0)), .v (.one (.d (.int .i64) x1)), .v (.one (.d (.int .i64) x2)), .v (.one (.d (.int .i64) x3)), .v (.one (.d (.int .i64) x4)), .v (.one (.d (.int .i64) x5))], [] => (g x0 x1 x2 x3 x4 x5).bind fun r => K ⟨.tup [(.one (.d (.int .i64) r.1)), (.one (.d (.int .i64) r.2.1)), (.one (.d (.int .i64) r.2.2))], []⟩
    | _, _ => none
  legit := fun tvs blks K r h => by
    split at h
    · obtain ⟨x, hx, hk⟩ := Option.bind_eq_some_iff.1 h
      refine ⟨_, ?_, hk⟩
      simp only [hx, Option.bind_some]
    · simp at h
def seg_transomref01_Next_4 (g : ByteArray → Int → Int → Int → Int → Option (Int × Int × Int)) : Seg where
  path := [1, 1, 5, 4, 1, 0, 1, 1, 1, 1, 1, 1, 1]
  prep := []
  keep := [0, 5, 6, 7, 9]
  F := fun tvs blks {β} K => match tvs, blks with
    | [.v (.one (.d .str x0)), .v (.one (.d (.int .i64) x1)), .v (.one (.d (.int .i64) x2)), .v (.one (.d (.int .i64) x3)), .v (.one (.d (.int .i64) x4))], [] => (g x0 x1 x2 x3 x4).bind fun r => K ⟨.tup [(.one (.d (.int .i64) r.1)), (.one (.d (.int .i64) r.2.1)), (.one (.d (.int .i64) r.2.2))], []⟩
    | _, _ => none
  legit := fun tvs blks K r h => by
    split at h
    · obtain ⟨x, hx, hk⟩ := Option.bind_eq_some_iff.1 h
      refine ⟨_, ?_, hk⟩
      simp only [hx, Option.bind_some]
    · simp at h
noncomputable def env_transomref01_Next (g64 : Int → Option (Int × Int)) (g65 : Int → Int → Int → Option Bool) (s0 : ByteArray → Int → Int → Int → Int → Option (Int × Int × Int)) (s1 : ByteArray → Int → Int → Int → Int → Option (Int × Int × Int)) (s2 : ByteArray → Int → Int → Int → Int → Int → Bool → Option (Int × Int × Int)) (s3 : ByteArray → Int → Int → Int → Int → Int → Option (Int × Int × Int)) (s4 : ByteArray → Int → Int → Int → Int → Option (Int × Int × Int)) : FEnv := { P := Go.Proofs.Try.prog, ct := fun m => if m = 64 then some (ct_transomref01_lead g64) else if m = 65 then some (ct_transomref01_among g65) else none, N := 82, body := Go.Proofs.Try.f60.body.getD .skip, rvs := [.tmp 2, .tmp 3, .tmp 4], rts := [3, 3, 3], nin := 0, rmv := [], segs := [seg_transomref01_Next_0 s0, seg_transomref01_Next_1 s1, seg_transomref01_Next_2 s2, seg_transomref01_Next_3 s3, seg_transomref01_Next_4 s4] }
def transomref01_Next.c {β : Type} (g64 : Int → Option (Int × Int)) (g65 : Int → Int → Int → Option Bool) (s0 : ByteArray → Int → Int → Int → Int → Option (Int × Int × Int)) (s1 : ByteArray → Int → Int → Int → Int → Option (Int × Int × Int)) (s2 : ByteArray → Int → Int → Int → Int → Int → Bool → Option (Int × Int × Int)) (s3 : ByteArray → Int → Int → Int → Int → Int → Option (Int × Int × Int)) (s4 : ByteArray → Int → Int → Int → Int → Option (Int × Int × Int)) (a0 : ByteArray) (ret : (Int × Int × Int) → Option β) : Option β := (bif (((ByteArray.size a0) : Int) == (0 : Int)) then (ret ((0 : Int), (0 : Int), (3 : Int))) else (bif (true && (decide ((0 : Int) < ((ByteArray.size a0) : Int)))) then ((g64 (IntKind.wrap IntKind.i64 (bt a0 (0 : Int)))).bind fun r0 => (bif (r0.1 == (0 : Int)) then (ret ((0 : Int), (0 : Int), (7 : Int))) else ((s0 a0 r0.1 r0.2 (1 : Int) (1 : Int)).bind ret))) else none))
def transomref01_Next.s0c {β : Type} (g64 : Int → Option (Int × Int)) (g65 : Int → Int → Int → Option Bool) (s0 : ByteArray → Int → Int → Int → Int → Option (Int × Int × Int)) (s1 : ByteArray → Int → Int → Int → Int → Option (Int × Int × Int)) (s2 : ByteArray → Int → Int → Int → Int → Int → Bool → Option (Int × Int × Int)) (s3 : ByteArray → Int → Int → Int → Int → Int → Option (Int × Int × Int)) (s4 : ByteArray → Int → Int → Int → Int → Option (Int × Int × Int)) (x0 : ByteArray) (x1 : Int) (x2 : Int) (x3 : Int) (x4 : Int) (ret : (Int × Int × Int) → Option β) : Option β := (bif (decide (x4 < x1)) then ((s0 x0 x1 x2 (IntKind.wrap IntKind.i64 (x3 * (64 : Int))) (IntKind.wrap IntKind.i64 (x4 + (1 : Int)))).bind ret) else ((g65 (IntKind.wrap IntKind.i64 (x2 * x3)) (IntKind.wrap IntKind.i64 ((IntKind.wrap IntKind.i64 ((IntKind.wrap IntKind.i64 (x2 * x3)) + x3)) - (1 : Int))) x1).bind fun r0 => (bif (!r0) then (ret ((0 : Int), (0 : Int), (7 : Int))) else ((s1 x0 x1 x2 x3 (1 : Int)).bind ret))))
def transomref01_Next.s1c {β : Type} (g64 : Int → Option (Int × Int)) (g65 : Int → Int → Int → Option Bool) (s0 : ByteArray → Int → Int → Int → Int → Option (Int × Int × Int)) (s1 : ByteArray → Int → Int → Int → Int → Option (Int × Int × Int)) (s2 : ByteArray → Int → Int → Int → Int → Int → Bool → Option (Int × Int × Int)) (s3 : ByteArray → Int → Int → Int → Int → Int → Option (Int × Int × Int)) (s4 : ByteArray → Int → Int → Int → Int → Option (Int × Int × Int)) (x0 : ByteArray) (x1 : Int) (x2 : Int) (x3 : Int) (x4 : Int) (ret : (Int × Int × Int) → Option β) : Option β := (bif (decide (x4 < x1)) then (bif (decide (x4 ≥ ((ByteArray.size x0) : Int))) then (ret ((0 : Int), (0 : Int), (3 : Int))) else (bif ((decide ((0 : Int) ≤ x4)) && (decide (x4 < ((ByteArray.size x0) : Int)))) then (bif (decide ((IntKind.wrap IntKind.i64 (bt x0 x4)) < (128 : Int))) then ((s2 x0 x1 x2 x3 x4 (IntKind.wrap IntKind.i64 (bt x0 x4)) true).bind ret) else ((s2 x0 x1 x2 x3 x4 (IntKind.wrap IntKind.i64 (bt x0 x4)) (decide ((IntKind.wrap IntKind.i64 (bt x0 x4)) > (191 : Int)))).bind ret)) else none)) else (ret (x2, x1, (0 : Int))))
def transomref01_Next.s2c {β : Type} (g64 : Int → Option (Int × Int)) (g65 : Int → Int → Int → Option Bool) (s0 : ByteArray → Int → Int → Int → Int → Option (Int × Int × Int)) (s1 : ByteArray → Int → Int → Int → Int → Option (Int × Int × Int)) (s2 : ByteArray → Int → Int → Int → Int → Int → Bool → Option (Int × Int × Int)) (s3 : ByteArray → Int → Int → Int → Int → Int → Option (Int × Int × Int)) (s4 : ByteArray → Int → Int → Int → Int → Option (Int × Int × Int)) (x0 : ByteArray) (x1 : Int) (x2 : Int) (x3 : Int) (x4 : Int) (x5 : Int) (x6 : Bool) (ret : (Int × Int × Int) → Option β) : Option β := (bif x6 then (ret ((0 : Int), (0 : Int), (7 : Int))) else ((s3 x0 x1 x2 x3 x4 x5).bind ret))
def transomref01_Next.s3c {β : Type} (g64 : Int → Option (Int × Int)) (g65 : Int → Int → Int → Option Bool) (s0 : ByteArray → Int → Int → Int → Int → Option (Int × Int × Int)) (s1 : ByteArray → Int → Int → Int → Int → Option (Int × Int × Int)) (s2 : ByteArray → Int → Int → Int → Int → Int → Bool → Option (Int × Int × Int)) (s3 : ByteArray → Int → Int → Int → Int → Int → Option (Int × Int × Int)) (s4 : ByteArray → Int → Int → Int → Int → Option (Int × Int × Int)) (x0 : ByteArray) (x1 : Int) (x2 : Int) (x3 : Int) (x4 : Int) (x5 : Int) (ret : (Int × Int × Int) → Option β) : Option β := ((g65 (IntKind.wrap IntKind.i64 ((IntKind.wrap IntKind.i64 ((IntKind.wrap IntKind.i64 ((IntKind.wrap IntKind.i64 (x2 * (64 : Int))) + x5)) - (128 : Int))) * (IntKind.wrap IntKind.i64 (Int.tdiv x3 (64 : Int))))) (IntKind.wrap IntKind.i64 ((IntKind.wrap IntKind.i64 ((IntKind.wrap IntKind.i64 ((IntKind.wrap IntKind.i64 ((IntKind.wrap IntKind.i64 ((IntKind.wrap IntKind.i64 (x2 * (64 : Int))) + x5)) - (128 : Int))) * (IntKind.wrap IntKind.i64 (Int.tdiv x3 (64 : Int))))) + (IntKind.wrap IntKind.i64 (Int.tdiv x3 (64 : Int))))) - (1 : Int))) x1).bind fun r0 => (bif (!r0) then (ret ((0 : Int), (0 : Int), (7 : Int))) else ((s4 x0 x1 (IntKind.wrap IntKind.i64 ((IntKind.wrap IntKind.i64 ((IntKind.wrap IntKind.i64 (x2 * (64 : Int))) + x5)) - (128 : Int))) (IntKind.wrap IntKind.i64 (Int.tdiv x3 (64 : Int))) x4).bind ret)))
def transomref01_Next.s4c {β : Type} (g64 : Int → Option (Int × Int)) (g65 : Int → Int → Int → Option Bool) (s0 : ByteArray → Int → Int → Int → Int → Option (Int × Int × Int)) (s1 : ByteArray → Int → Int → Int → Int → Option (Int × Int × Int)) (s2 : ByteArray → Int → Int → Int → Int → Int → Bool → Option (Int × Int × Int)) (s3 : ByteArray → Int → Int → Int → Int → Int → Option (Int × Int × Int)) (s4 : ByteArray → Int → Int → Int → Int → Option (Int × Int × Int)) (x0 : ByteArray) (x1 : Int) (x2 : Int) (x3 : Int) (x4 : Int) (ret : (Int × Int × Int) → Option β) : Option β := ((s1 x0 x1 x2 x3 (IntKind.wrap IntKind.i64 (x4 + (1 : Int)))).bind ret)
theorem transomref01_Next.c_bind {β : Type} (g64 : Int → Option (Int × Int)) (g65 : Int → Int → Int → Option Bool) (s0 : ByteArray → Int → Int → Int → Int → Option (Int × Int × Int)) (s1 : ByteArray → Int → Int → Int → Int → Option (Int × Int × Int)) (s2 : ByteArray → Int → Int → Int → Int → Int → Bool → Option (Int × Int × Int)) (s3 : ByteArray → Int → Int → Int → Int → Int → Option (Int × Int × Int)) (s4 : ByteArray → Int → Int → Int → Int → Option (Int × Int × Int)) (a0 : ByteArray) (ret : (Int × Int × Int) → Option β) : transomref01_Next.c g64 g65 s0 s1 s2 s3 s4 a0 ret = (transomref01_Next.c g64 g65 s0 s1 s2 s3 s4 a0 some).bind ret := by
  simp only [transomref01_Next.c, bif_bind, sum_bind, Option.bind_assoc, Option.bind_some, Option.bind_none, Option.bind_fun_some]
theorem transomref01_Next.s0c_bind {β : Type} (g64 : Int → Option (Int × Int)) (g65 : Int → Int → Int → Option Bool) (s0 : ByteArray → Int → Int → Int → Int → Option (Int × Int × Int)) (s1 : ByteArray → Int → Int → Int → Int → Option (Int × Int × Int)) (s2 : ByteArray → Int → Int → Int → Int → Int → Bool → Option (Int × Int × Int)) (s3 : ByteArray → Int → Int → Int → Int → Int → Option (Int × Int × Int)) (s4 : ByteArray → Int → Int → Int → Int → Option (Int × Int × Int)) (x0 : ByteArray) (x1 : Int) (x2 : Int) (x3 : Int) (x4 : Int) (ret : (Int × Int × Int) → Option β) : transomref01_Next.s0c g64 g65 s0 s1 s2 s3 s4 x0 x1 x2 x3 x4 ret = (transomref01_Next.s0c g64 g65 s0 s1 s2 s3 s4 x0 x1 x2 x3 x4 some).bind ret := by
  simp only [transomref01_Next.s0c, bif_bind, sum_bind, Option.bind_assoc, Option.bind_some, Option.bind_none, Option.bind_fun_some]
theorem transomref01_Next.s1c_bind {β : Type} (g64 : Int → Option (Int × Int)) (g65 : Int → Int → Int → Option Bool) (s0 : ByteArray → Int → Int → Int → Int → Option (Int × Int × Int)) (s1 : ByteArray → Int → Int → Int → Int → Option (Int × Int × Int)) (s2 : ByteArray → Int → Int → Int → Int → Int → Bool → Option (Int × Int × Int)) (s3 : ByteArray → Int → Int → Int → Int → Int → Option (Int × Int × Int)) (s4 : ByteArray → Int → Int → Int → Int → Option (Int × Int × Int)) (x0 : ByteArray) (x1 : Int) (x2 : Int) (x3 : Int) (x4 : Int) (ret : (Int × Int × Int) → Option β) : transomref01_Next.s1c g64 g65 s0 s1 s2 s3 s4 x0 x1 x2 x3 x4 ret = (transomref01_Next.s1c g64 g65 s0 s1 s2 s3 s4 x0 x1 x2 x3 x4 some).bind ret := by
  simp only [transomref01_Next.s1c, bif_bind, sum_bind, Option.bind_assoc, Option.bind_some, Option.bind_none, Option.bind_fun_some]
theorem transomref01_Next.s2c_bind {β : Type} (g64 : Int → Option (Int × Int)) (g65 : Int → Int → Int → Option Bool) (s0 : ByteArray → Int → Int → Int → Int → Option (Int × Int × Int)) (s1 : ByteArray → Int → Int → Int → Int → Option (Int × Int × Int)) (s2 : ByteArray → Int → Int → Int → Int → Int → Bool → Option (Int × Int × Int)) (s3 : ByteArray → Int → Int → Int → Int → Int → Option (Int × Int × Int)) (s4 : ByteArray → Int → Int → Int → Int → Option (Int × Int × Int)) (x0 : ByteArray) (x1 : Int) (x2 : Int) (x3 : Int) (x4 : Int) (x5 : Int) (x6 : Bool) (ret : (Int × Int × Int) → Option β) : transomref01_Next.s2c g64 g65 s0 s1 s2 s3 s4 x0 x1 x2 x3 x4 x5 x6 ret = (transomref01_Next.s2c g64 g65 s0 s1 s2 s3 s4 x0 x1 x2 x3 x4 x5 x6 some).bind ret := by
  simp only [transomref01_Next.s2c, bif_bind, sum_bind, Option.bind_assoc, Option.bind_some, Option.bind_none, Option.bind_fun_some]
theorem transomref01_Next.s3c_bind {β : Type} (g64 : Int → Option (Int × Int)) (g65 : Int → Int → Int → Option Bool) (s0 : ByteArray → Int → Int → Int → Int → Option (Int × Int × Int)) (s1 : ByteArray → Int → Int → Int → Int → Option (Int × Int × Int)) (s2 : ByteArray → Int → Int → Int → Int → Int → Bool → Option (Int × Int × Int)) (s3 : ByteArray → Int → Int → Int → Int → Int → Option (Int × Int × Int)) (s4 : ByteArray → Int → Int → Int → Int → Option (Int × Int × Int)) (x0 : ByteArray) (x1 : Int) (x2 : Int) (x3 : Int) (x4 : Int) (x5 : Int) (ret : (Int × Int × Int) → Option β) : transomref01_Next.s3c g64 g65 s0 s1 s2 s3 s4 x0 x1 x2 x3 x4 x5 ret = (transomref01_Next.s3c g64 g65 s0 s1 s2 s3 s4 x0 x1 x2 x3 x4 x5 some).bind ret := by
  simp only [transomref01_Next.s3c, bif_bind, sum_bind, Option.bind_assoc, Option.bind_some, Option.bind_none, Option.bind_fun_some]
theorem transomref01_Next.s4c_bind {β : Type} (g64 : Int → Option (Int × Int)) (g65 : Int → Int → Int → Option Bool) (s0 : ByteArray → Int → Int → Int → Int → Option (Int × Int × Int)) (s1 : ByteArray → Int → Int → Int → Int → Option (Int × Int × Int)) (s2 : ByteArray → Int → Int → Int → Int → Int → Bool → Option (Int × Int × Int)) (s3 : ByteArray → Int → Int → Int → Int → Int → Option (Int × Int × Int)) (s4 : ByteArray → Int → Int → Int → Int → Option (Int × Int × Int)) (x0 : ByteArray) (x1 : Int) (x2 : Int) (x3 : Int) (x4 : Int) (ret : (Int × Int × Int) → Option β) : transomref01_Next.s4c g64 g65 s0 s1 s2 s3 s4 x0 x1 x2 x3 x4 ret = (transomref01_Next.s4c g64 g65 s0 s1 s2 s3 s4 x0 x1 x2 x3 x4 some).bind ret := by
  simp only [transomref01_Next.s4c, bif_bind, sum_bind, Option.bind_assoc, Option.bind_some, Option.bind_none, Option.bind_fun_some]
theorem transomref01_Next.ev (g64 : Int → Option (Int × Int)) (g65 : Int → Int → Int → Option Bool) (s0 : ByteArray → Int → Int → Int → Int → Option (Int × Int × Int)) (s1 : ByteArray → Int → Int → Int → Int → Option (Int × Int × Int)) (s2 : ByteArray → Int → Int → Int → Int → Int → Bool → Option (Int × Int × Int)) (s3 : ByteArray → Int → Int → Int → Int → Int → Option (Int × Int × Int)) (s4 : ByteArray → Int → Int → Int → Int → Option (Int × Int × Int)) (a0 : ByteArray) : evAt (env_transomref01_Next g64 g65 s0 s1 s2 s3 s4) [] [0] [.v (.one (.d .str a0))] [] some = transomref01_Next.c g64 g65 s0 s1 s2 s3 s4 a0 (fun r => some ⟨.tup [(.one (.d (.int .i64) r.1)), (.one (.d (.int .i64) r.2.1)), (.one (.d (.int .i64) r.2.2))], []⟩) := by
  kernel_rfl
theorem transomref01_Next.s0_ev (g64 : Int → Option (Int × Int)) (g65 : Int → Int → Int → Option Bool) (s0 : ByteArray → Int → Int → Int → Int → Option (Int × Int × Int)) (s1 : ByteArray → Int → Int → Int → Int → Option (Int × Int × Int)) (s2 : ByteArray → Int → Int → Int → Int → Int → Bool → Option (Int × Int × Int)) (s3 : ByteArray → Int → Int → Int → Int → Int → Option (Int × Int × Int)) (s4 : ByteArray → Int → Int → Int → Int → Option (Int × Int × Int)) (x0 : ByteArray) (x1 : Int) (x2 : Int) (x3 : Int) (x4 : Int) : evAt (env_transomref01_Next g64 g65 s0 s1 s2 s3 s4) [4, 1, 0, 1, 1, 1, 1, 1] [0, 5, 6, 7, 8] [.v (.one (.d .str x0)), .v (.one (.d (.int .i64) x1)), .v (.one (.d (.int .i64) x2)), .v (.one (.d (.int .i64) x3)), .v (.one (.d (.int .i64) x4))] [] some = transomref01_Next.s0c g64 g65 s0 s1 s2 s3 s4 x0 x1 x2 x3 x4 (fun r => some ⟨.tup [(.one (.d (.int .i64) r.1)), (.one (.d (.int .i64) r.2.1)), (.one (.d (.int .i64) r.2.2))], []⟩) := by
  kernel_rfl
theorem transomref01_Next.s1_ev (g64 : Int → Option (Int × Int)) (g65 : Int → Int → Int → Option Bool) (s0 : ByteArray → Int → Int → Int → Int → Option (Int × Int × Int)) (s1 : ByteArray → Int → Int → Int → Int → Option (Int × Int × Int)) (s2 : ByteArray → Int → Int → Int → Int → Int → Bool → Option (Int × Int × Int)) (s3 : ByteArray → Int → Int → Int → Int → Int → Option (Int × Int × Int)) (s4 : ByteArray → Int → Int → Int → Int → Option (Int × Int × Int)) (x0 : ByteArray) (x1 : Int) (x2 : Int) (x3 : Int) (x4 : Int) : evAt (env_transomref01_Next g64 g65 s0 s1 s2 s3 s4) [4, 1, 0, 1, 1, 1, 1, 1, 1, 1] [0, 5, 6, 7, 9] [.v (.one (.d .str x0)), .v (.one (.d (.int .i64) x1)), .v (.one (.d (.int .i64) x2)), .v (.one (.d (.int .i64) x3)), .v (.one (.d (.int .i64) x4))] [] some = transomref01_Next.s1c g64 g65 s0 s1 s2 s3 s4 x0 x1 x2 x3 x4 (fun r => some ⟨.tup [(.one (.d (.int .i64) r.1)), (.one (.d (.int .i64) r.2.1)), (.one (.d (.int .i64) r.2.2))], []⟩) := by
  kernel_rfl
theorem transomref01_Next.s2_ev (g64 : Int → Option (Int × Int)) (g65 : Int → Int → Int → Option Bool) (s0 : ByteArray → Int → Int → Int → Int → Option (Int × Int × Int)) (s1 : ByteArray → Int → Int → Int → Int → Option (Int × Int × Int)) (s2 : ByteArray → Int → Int → Int → Int → Int → Bool → Option (Int × Int × Int)) (s3 : ByteArray → Int → Int → Int → Int → Int → Option (Int × Int × Int)) (s4 : ByteArray → Int → Int → Int → Int → Option (Int × Int × Int)) (x0 : ByteArray) (x1 : Int) (x2 : Int) (x3 : Int) (x4 : Int) (x5 : Int) (x6 : Bool) : evAt (env_transomref01_Next g64 g65 s0 s1 s2 s3 s4) [1, 0, 1, 1, 4, 0, 1, 5, 4, 1, 0, 1, 1, 1, 1, 1, 1, 1] [0, 5, 6, 7, 9, 10, 60] [.v (.one (.d .str x0)), .v (.one (.d (.int .i64) x1)), .v (.one (.d (.int .i64) x2)), .v (.one (.d (.int .i64) x3)), .v (.one (.d (.int .i64) x4)), .v (.one (.d (.int .i64) x5)), .v (.one (.d .bool x6))] [] some = transomref01_Next.s2c g64 g65 s0 s1 s2 s3 s4 x0 x1 x2 x3 x4 x5 x6 (fun r => some ⟨.tup [(.one (.d (.int .i64) r.1)), (.one (.d (.int .i64) r.2.1)), (.one (.d (.int .i64) r.2.2))], []⟩) := by
  kernel_rfl
theorem transomref01_Next.s3_ev (g64 : Int → Option (Int × Int)) (g65 : Int → Int → Int → Option Bool) (s0 : ByteArray → Int → Int → Int → Int → Option (Int × Int × Int)) (s1 : ByteArray → Int → Int → Int → Int → Option (Int × Int × Int)) (s2 : ByteArray → Int → Int → Int → Int → Int → Bool → Option (Int × Int × Int)) (s3 : ByteArray → Int → Int → Int → Int → Int → Option (Int × Int × Int)) (s4 : ByteArray → Int → Int → Int → Int → Option (Int × Int × Int)) (x0 : ByteArray) (x1 : Int) (x2 : Int) (x3 : Int) (x4 : Int) (x5 : Int) : evAt (env_transomref01_Next g64 g65 s0 s1 s2 s3 s4) [1, 1, 1, 4, 0, 1, 5, 4, 1, 0, 1, 1, 1, 1, 1, 1, 1] [0, 5, 6, 7, 9, 10] [.v (.one (.d .str x0)), .v (.one (.d (.int .i64) x1)), .v (.one (.d (.int .i64) x2)), .v (.one (.d (.int .i64) x3)), .v (.one (.d (.int .i64) x4)), .v (.one (.d (.int .i64) x5))] [] some = transomref01_Next.s3c g64 g65 s0 s1 s2 s3 s4 x0 x1 x2 x3 x4 x5 (fun r => some ⟨.tup [(.one (.d (.int .i64) r.1)), (.one (.d (.int .i64) r.2.1)), (.one (.d (.int .i64) r.2.2))], []⟩) := by
  kernel_rfl
theorem transomref01_Next.s4_ev (g64 : Int → Option (Int × Int)) (g65 : Int → Int → Int → Option Bool) (s0 : ByteArray → Int → Int → Int → Int → Option (Int × Int × Int)) (s1 : ByteArray → Int → Int → Int → Int → Option (Int × Int × Int)) (s2 : ByteArray → Int → Int → Int → Int → Int → Bool → Option (Int × Int × Int)) (s3 : ByteArray → Int → Int → Int → Int → Int → Option (Int × Int × Int)) (s4 : ByteArray → Int → Int → Int → Int → Option (Int × Int × Int)) (x0 : ByteArray) (x1 : Int) (x2 : Int) (x3 : Int) (x4 : Int) : evAt (env_transomref01_Next g64 g65 s0 s1 s2 s3 s4) [1, 1, 5, 4, 1, 0, 1, 1, 1, 1, 1, 1, 1] [0, 5, 6, 7, 9] [.v (.one (.d .str x0)), .v (.one (.d (.int .i64) x1)), .v (.one (.d (.int .i64) x2)), .v (.one (.d (.int .i64) x3)), .v (.one (.d (.int .i64) x4))] [] some = transomref01_Next.s4c g64 g65 s0 s1 s2 s3 s4 x0 x1 x2 x3 x4 (fun r => some ⟨.tup [(.one (.d (.int .i64) r.1)), (.one (.d (.int .i64) r.2.1)), (.one (.d (.int .i64) r.2.2))], []⟩) := by
  kernel_rfl
mutual
def transomref01_Next.s0 : Nat → ByteArray → Int → Int → Int → Int → Option (Int × Int × Int)
  | 0, _, _, _, _, _ => none
  | k + 1, x0, x1, x2, x3, x4 => transomref01_Next.s0c (transomref01_lead.f k) (transomref01_among.f k) (transomref01_Next.s0 k) (transomref01_Next.s1 k) (transomref01_Next.s2 k) (transomref01_Next.s3 k) (transomref01_Next.s4 k) x0 x1 x2 x3 x4 some
def transomref01_Next.s1 : Nat → ByteArray → Int → Int → Int → Int → Option (Int × Int × Int)
  | 0, _, _, _, _, _ => none
  | k + 1, x0, x1, x2, x3, x4 => transomref01_Next.s1c (transomref01_lead.f k) (transomref01_among.f k) (transomref01_Next.s0 k) (transomref01_Next.s1 k) (transomref01_Next.s2 k) (transomref01_Next.s3 k) (transomref01_Next.s4 k) x0 x1 x2 x3 x4 some
def transomref01_Next.s2 : Nat → ByteArray → Int → Int → Int → Int → Int → Bool → Option (Int × Int × Int)
  | 0, _, _, _, _, _, _, _ => none
  | k + 1, x0, x1, x2, x3, x4, x5, x6 => transomref01_Next.s2c (transomref01_lead.f k) (transomref01_among.f k) (transomref01_Next.s0 k) (transomref01_Next.s1 k) (transomref01_Next.s2 k) (transomref01_Next.s3 k) (transomref01_Next.s4 k) x0 x1 x2 x3 x4 x5 x6 some
def transomref01_Next.s3 : Nat → ByteArray → Int → Int → Int → Int → Int → Option (Int × Int × Int)
  | 0, _, _, _, _, _, _ => none
  | k + 1, x0, x1, x2, x3, x4, x5 => transomref01_Next.s3c (transomref01_lead.f k) (transomref01_among.f k) (transomref01_Next.s0 k) (transomref01_Next.s1 k) (transomref01_Next.s2 k) (transomref01_Next.s3 k) (transomref01_Next.s4 k) x0 x1 x2 x3 x4 x5 some
def transomref01_Next.s4 : Nat → ByteArray → Int → Int → Int → Int → Option (Int × Int × Int)
  | 0, _, _, _, _, _ => none
  | k + 1, x0, x1, x2, x3, x4 => transomref01_Next.s4c (transomref01_lead.f k) (transomref01_among.f k) (transomref01_Next.s0 k) (transomref01_Next.s1 k) (transomref01_Next.s2 k) (transomref01_Next.s3 k) (transomref01_Next.s4 k) x0 x1 x2 x3 x4 some
end
def transomref01_Next.f (k : Nat) (a0 : ByteArray) : Option (Int × Int × Int) := transomref01_Next.c (transomref01_lead.f k) (transomref01_among.f k) (transomref01_Next.s0 k) (transomref01_Next.s1 k) (transomref01_Next.s2 k) (transomref01_Next.s3 k) (transomref01_Next.s4 k) a0 some
theorem transomref01_Next.is (g64 : Int → Option (Int × Int)) (g65 : Int → Int → Int → Option Bool) (s0 : ByteArray → Int → Int → Int → Int → Option (Int × Int × Int)) (s1 : ByteArray → Int → Int → Int → Int → Option (Int × Int × Int)) (s2 : ByteArray → Int → Int → Int → Int → Int → Bool → Option (Int × Int × Int)) (s3 : ByteArray → Int → Int → Int → Int → Int → Option (Int × Int × Int)) (s4 : ByteArray → Int → Int → Int → Int → Option (Int × Int × Int)) : FnIs (env_transomref01_Next g64 g65 s0 s1 s2 s3 s4) 60 Go.Proofs.Try.f60 := ⟨Go.Proofs.Try.func60, rfl, rfl, rfl, by decide⟩
theorem transomref01_Next.envok (g64 : Int → Option (Int × Int)) (g65 : Int → Int → Int → Option Bool) (s0 : ByteArray → Int → Int → Int → Int → Option (Int × Int × Int)) (s1 : ByteArray → Int → Int → Int → Int → Option (Int × Int × Int)) (s2 : ByteArray → Int → Int → Int → Int → Int → Bool → Option (Int × Int × Int)) (s3 : ByteArray → Int → Int → Int → Int → Int → Option (Int × Int × Int)) (s4 : ByteArray → Int → Int → Int → Int → Option (Int × Int × Int)) (h64 : CtOK Go.Proofs.Try.prog 64 (ct_transomref01_lead g64)) (h65 : CtOK Go.Proofs.Try.prog 65 (ct_transomref01_among g65)) : EnvOK (env_transomref01_Next g64 g65 s0 s1 s2 s3 s4).toEnv := by
  intro f c h
  simp only [env_transomref01_Next] at h
  split at h
  · rename_i e; subst e; cases h; exact h64
  split at h
  · rename_i e; subst e; cases h; exact h65
  simp at h
theorem transomref01_Next.segs_ok : ∀ k, ∀ s ∈ (env_transomref01_Next (transomref01_lead.f k) (transomref01_among.f k) (transomref01_Next.s0 k) (transomref01_Next.s1 k) (transomref01_Next.s2 k) (transomref01_Next.s3 k) (transomref01_Next.s4 k)).segs, SegOK (env_transomref01_Next (transomref01_lead.f k) (transomref01_among.f k) (transomref01_Next.s0 k) (transomref01_Next.s1 k) (transomref01_Next.s2 k) (transomref01_Next.s3 k) (transomref01_Next.s4 k)) Go.Proofs.Try.f60 s
  | 0 => by
    intro s hs
    simp only [env_transomref01_Next, List.mem_cons, List.not_mem_nil, or_false] at hs
    rcases hs with rfl | rfl | rfl | rfl | rfl
    · intro tvs blks res h; exfalso; simp only [seg_transomref01_Next_0] at h; split at h <;> simp [transomref01_Next.s0] at h
    · intro tvs blks res h; exfalso; simp only [seg_transomref01_Next_1] at h; split at h <;> simp [transomref01_Next.s1] at h
    · intro tvs blks res h; exfalso; simp only [seg_transomref01_Next_2] at h; split at h <;> simp [transomref01_Next.s2] at h
    · intro tvs blks res h; exfalso; simp only [seg_transomref01_Next_3] at h; split at h <;> simp [transomref01_Next.s3] at h
    · intro tvs blks res h; exfalso; simp only [seg_transomref01_Next_4] at h; split at h <;> simp [transomref01_Next.s4] at h
  | k + 1 => by
    have ih := transomref01_Next.segs_ok k
    intro s hs
    simp only [env_transomref01_Next, List.mem_cons, List.not_mem_nil, or_false] at hs
    rcases hs with rfl | rfl | rfl | rfl | rfl
    · refine seg_of_ev (E := env_transomref01_Next (transomref01_lead.f k) (transomref01_among.f k) (transomref01_Next.s0 k) (transomref01_Next.s1 k) (transomref01_Next.s2 k) (transomref01_Next.s3 k) (transomref01_Next.s4 k)) (transomref01_Next.envok _ _ _ _ _ _ _  (transomref01_lead.ok k) (transomref01_among.ok k)) ⟨(transomref01_Next.is (transomref01_lead.f k) (transomref01_among.f k) (transomref01_Next.s0 k) (transomref01_Next.s1 k) (transomref01_Next.s2 k) (transomref01_Next.s3 k) (transomref01_Next.s4 k)).rvs⟩ ih ?_
      intro tvs blks res h
      simp only [seg_transomref01_Next_0] at h
      split at h
      · refine (transomref01_Next.s0_ev (transomref01_lead.f k) (transomref01_among.f k) (transomref01_Next.s0 k) (transomref01_Next.s1 k) (transomref01_Next.s2 k) (transomref01_Next.s3 k) (transomref01_Next.s4 k) _ _ _ _ _ ).trans ?_
        rw [transomref01_Next.s0c_bind]
        exact h
      · simp at h
    · refine seg_of_ev (E := env_transomref01_Next (transomref01_lead.f k) (transomref01_among.f k) (transomref01_Next.s0 k) (transomref01_Next.s1 k) (transomref01_Next.s2 k) (transomref01_Next.s3 k) (transomref01_Next.s4 k)) (transomref01_Next.envok _ _ _ _ _ _ _  (transomref01_lead.ok k) (transomref01_among.ok k)) ⟨(transomref01_Next.is (transomref01_lead.f k) (transomref01_among.f k) (transomref01_Next.s0 k) (transomref01_Next.s1 k) (transomref01_Next.s2 k) (transomref01_Next.s3 k) (transomref01_Next.s4 k)).rvs⟩ ih ?_
      intro tvs blks res h
      simp only [seg_transomref01_Next_1] at h
      split at h
      · refine (transomref01_Next.s1_ev (transomref01_lead.f k) (transomref01_among.f k) (transomref01_Next.s0 k) (transomref01_Next.s1 k) (transomref01_Next.s2 k) (transomref01_Next.s3 k) (transomref01_Next.s4 k) _ _ _ _ _ ).trans ?_
        rw [transomref01_Next.s1c_bind]
        exact h
      · simp at h
    · refine seg_of_ev (E := env_transomref01_Next (transomref01_lead.f k) (transomref01_among.f k) (transomref01_Next.s0 k) (transomref01_Next.s1 k) (transomref01_Next.s2 k) (transomref01_Next.s3 k) (transomref01_Next.s4 k)) (transomref01_Next.envok _ _ _ _ _ _ _  (transomref01_lead.ok k) (transomref01_among.ok k)) ⟨(transomref01_Next.is (transomref01_lead.f k) (transomref01_among.f k) (transomref01_Next.s0 k) (transomref01_Next.s1 k) (transomref01_Next.s2 k) (transomref01_Next.s3 k) (transomref01_Next.s4 k)).rvs⟩ ih ?_
      intro tvs blks res h
      simp only [seg_transomref01_Next_2] at h
      split at h
      · refine (transomref01_Next.s2_ev (transomref01_lead.f k) (transomref01_among.f k) (transomref01_Next.s0 k) (transomref01_Next.s1 k) (transomref01_Next.s2 k) (transomref01_Next.s3 k) (transomref01_Next.s4 k) _ _ _ _ _ _ _ ).trans ?_
        rw [transomref01_Next.s2c_bind]
        exact h
      · simp at h
    · refine seg_of_ev (E := env_transomref01_Next (transomref01_lead.f k) (transomref01_among.f k) (transomref01_Next.s0 k) (transomref01_Next.s1 k) (transomref01_Next.s2 k) (transomref01_Next.s3 k) (transomref01_Next.s4 k)) (transomref01_Next.envok _ _ _ _ _ _ _  (transomref01_lead.ok k) (transomref01_among.ok k)) ⟨(transomref01_Next.is (transomref01_lead.f k) (transomref01_among.f k) (transomref01_Next.s0 k) (transomref01_Next.s1 k) (transomref01_Next.s2 k) (transomref01_Next.s3 k) (transomref01_Next.s4 k)).rvs⟩ ih ?_
      intro tvs blks res h
      simp only [seg_transomref01_Next_3] at h
      split at h
      · refine (transomref01_Next.s3_ev (transomref01_lead.f k) (transomref01_among.f k) (transomref01_Next.s0 k) (transomref01_Next.s1 k) (transomref01_Next.s2 k) (transomref01_Next.s3 k) (transomref01_Next.s4 k) _ _ _ _ _ _ ).trans ?_
        rw [transomref01_Next.s3c_bind]
        exact h
      · simp at h
    · refine seg_of_ev (E := env_transomref01_Next (transomref01_lead.f k) (transomref01_among.f k) (transomref01_Next.s0 k) (transomref01_Next.s1 k) (transomref01_Next.s2 k) (transomref01_Next.s3 k) (transomref01_Next.s4 k)) (transomref01_Next.envok _ _ _ _ _ _ _  (transomref01_lead.ok k) (transomref01_among.ok k)) ⟨(transomref01_Next.is (transomref01_lead.f k) (transomref01_among.f k) (transomref01_Next.s0 k) (transomref01_Next.s1 k) (transomref01_Next.s2 k) (transomref01_Next.s3 k) (transomref01_Next.s4 k)).rvs⟩ ih ?_
      intro tvs blks res h
      simp only [seg_transomref01_Next_4] at h
      split at h
      · refine (transomref01_Next.s4_ev (transomref01_lead.f k) (transomref01_among.f k) (transomref01_Next.s0 k) (transomref01_Next.s1 k) (transomref01_Next.s2 k) (transomref01_Next.s3 k) (transomref01_Next.s4 k) _ _ _ _ _ ).trans ?_
        rw [transomref01_Next.s4c_bind]
        exact h
      · simp at h
theorem transomref01_Next.ok (k : Nat) : CtOK Go.Proofs.Try.prog 60 (ct_transomref01_Next (transomref01_Next.f k)) := by
  refine ct_of_ev (E := env_transomref01_Next (transomref01_lead.f k) (transomref01_among.f k) (transomref01_Next.s0 k) (transomref01_Next.s1 k) (transomref01_Next.s2 k) (transomref01_Next.s3 k) (transomref01_Next.s4 k)) (transomref01_Next.is _ _ _ _ _ _ _ ) (transomref01_Next.envok _ _ _ _ _ _ _  (transomref01_lead.ok k) (transomref01_among.ok k)) (transomref01_Next.segs_ok k) rfl ?_
  intro tvs blks res h
  simp only [ct_transomref01_Next] at h
  split at h
  · refine (transomref01_Next.ev (transomref01_lead.f k) (transomref01_among.f k) (transomref01_Next.s0 k) (transomref01_Next.s1 k) (transomref01_Next.s2 k) (transomref01_Next.s3 k) (transomref01_Next.s4 k) _ ).trans ?_
    rw [transomref01_Next.c_bind]
    exact h
  · simp at h

/-! ### transomref01_Count: function 56 -/
def ct_transomref01_Count (g : ByteArray → Option Int) : Ct where
  nin := 0
  mv := []
  F := fun tvs blks {β} K => match tvs, blks with
    | [.v (.one (.d .str a0))], [] => (g a0).bind fun r => K ⟨.v (.one (.d (.int .i64) r)), []⟩
    | _, _ => none
  legit := fun tvs blks K r h => by
    split at h
    · obtain ⟨x, hx, hk⟩ := Option.bind_eq_some_iff.1 h
      refine ⟨_, ?_, hk⟩
      simp only [hx, Option.bind_some]
    · simp at h
def seg_transomref01_Count_0 (g : ByteArray → Int → Int → Option Int) : Seg where
  path := [4, 1, 0, 1, 1]
  prep := []
  keep := [0, 3, 4]
  F := fun tvs blks {β} K => match tvs, blks with
    | [.v (.one (.d .str x0)), .v (.one (.d (.int .i64) x1)), .v (.one (.d (.int .i64) x2))], [] => (g x0 x1 x2).bind fun r => K ⟨.v (.one (.d (.int .i64) r)), []⟩
    | _, _ => none
  legit := fun tvs blks K r h => by
    split at h
    · obtain ⟨x, hx, hk⟩ := Option.bind_eq_some_iff.1 h
      refine ⟨_, ?_, hk⟩
      simp only [hx, Option.bind_some]
    · simp at h
noncomputable def env_transomref01_Count (g60 : ByteArray → Option (Int × Int × Int)) (s0 : ByteArray → Int → Int → Option Int) : FEnv := { P := Go.Proofs.Try.prog, ct := fun m => if m = 60 then some (ct_transomref01_Next g60) else none, N := 28, body := Go.Proofs.Try.f56.body.getD .skip, rvs := [.tmp 2], rts := [3], nin := 0, rmv := [], segs := [seg_transomref01_Count_0 s0] }
def transomref01_Count.c {β : Type} (g60 : ByteArray → Option (Int × Int × Int)) (s0 : ByteArray → Int → Int → Option Int) (a0 : ByteArray) (ret : Int → Option β) : Option β := ((s0 a0 (0 : Int) (0 : Int)).bind ret)
def transomref01_Count.s0c {β : Type} (g60 : ByteArray → Option (Int × Int × Int)) (s0 : ByteArray → Int → Int → Option Int) (x0 : ByteArray) (x1 : Int) (x2 : Int) (ret : Int → Option β) : Option β := (bif (decide (x2 < ((ByteArray.size x0) : Int))) then (bif (((decide ((0 : Int) ≤ x2)) && (decide (x2 ≤ ((ByteArray.size x0) : Int)))) && (decide (((ByteArray.size x0) : Int) ≤ ((ByteArray.size x0) : Int)))) then ((g60 (ByteArray.extract x0 (Int.toNat x2) (Int.toNat ((ByteArray.size x0) : Int)))).bind fun r0 => (bif (r0.2.2 != (0 : Int)) then (ret ((-1 : Int))) else ((s0 x0 (IntKind.wrap IntKind.i64 (x1 + (1 : Int))) (IntKind.wrap IntKind.i64 (x2 + r0.2.1))).bind ret))) else none) else (ret (x1)))
theorem transomref01_Count.c_bind {β : Type} (g60 : ByteArray → Option (Int × Int × Int)) (s0 : ByteArray → Int → Int → Option Int) (a0 : ByteArray) (ret : Int → Option β) : transomref01_Count.c g60 s0 a0 ret = (transomref01_Count.c g60 s0 a0 some).bind ret := by
  simp only [transomref01_Count.c, bif_bind, sum_bind, Option.bind_assoc, Option.bind_some, Option.bind_none, Option.bind_fun_some]
theorem transomref01_Count.s0c_bind {β : Type} (g60 : ByteArray → Option (Int × Int × Int)) (s0 : ByteArray → Int → Int → Option Int) (x0 : ByteArray) (x1 : Int) (x2 : Int) (ret : Int → Option β) : transomref01_Count.s0c g60 s0 x0 x1 x2 ret = (transomref01_Count.s0c g60 s0 x0 x1 x2 some).bind ret := by
  simp only [transomref01_Count.s0c, bif_bind, sum_bind, Option.bind_assoc, Option.bind_some, Option.bind_none, Option.bind_fun_some]
theorem transomref01_Count.ev (g60 : ByteArray → Option (Int × Int × Int)) (s0 : ByteArray → Int → Int → Option Int) (a0 : ByteArray) : evAt (env_transomref01_Count g60 s0) [] [0] [.v (.one (.d .str a0))] [] some = transomref01_Count.c g60 s0 a0 (fun r => some ⟨.v (.one (.d (.int .i64) r)), []⟩) := by
  kernel_rfl
theorem transomref01_Count.s0_ev (g60 : ByteArray → Option (Int × Int × Int)) (s0 : ByteArray → Int → Int → Option Int) (x0 : ByteArray) (x1 : Int) (x2 : Int) : evAt (env_transomref01_Count g60 s0) [4, 1, 0, 1, 1] [0, 3, 4] [.v (.one (.d .str x0)), .v (.one (.d (.int .i64) x1)), .v (.one (.d (.int .i64) x2))] [] some = transomref01_Count.s0c g60 s0 x0 x1 x2 (fun r => some ⟨.v (.one (.d (.int .i64) r)), []⟩) := by
  kernel_rfl
def transomref01_Count.s0 : Nat → ByteArray → Int → Int → Option Int
  | 0, _, _, _ => none
  | k + 1, x0, x1, x2 => transomref01_Count.s0c (transomref01_Next.f k) (transomref01_Count.s0 k) x0 x1 x2 some
def transomref01_Count.f (k : Nat) (a0 : ByteArray) : Option Int := transomref01_Count.c (transomref01_Next.f k) (transomref01_Count.s0 k) a0 some
theorem transomref01_Count.is (g60 : ByteArray → Option (Int × Int × Int)) (s0 : ByteArray → Int → Int → Option Int) : FnIs (env_transomref01_Count g60 s0) 56 Go.Proofs.Try.f56 := ⟨Go.Proofs.Try.func56, rfl, rfl, rfl, by decide⟩
theorem transomref01_Count.envok (g60 : ByteArray → Option (Int × Int × Int)) (s0 : ByteArray → Int → Int → Option Int) (h60 : CtOK Go.Proofs.Try.prog 60 (ct_transomref01_Next g60)) : EnvOK (env_transomref01_Count g60 s0).toEnv := by
  intro f c h
  simp only [env_transomref01_Count] at h
  split at h
  · rename_i e; subst e; cases h; exact h60
  simp at h
theorem transomref01_Count.segs_ok : ∀ k, ∀ s ∈ (env_transomref01_Count (transomref01_Next.f k) (transomref01_Count.s0 k)).segs, SegOK (env_transomref01_Count (transomref01_Next.f k) (transomref01_Count.s0 k)) Go.Proofs.Try.f56 s
  | 0 => by
    intro s hs
    simp only [env_transomref01_Count, List.mem_cons, List.not_mem_nil, or_false] at hs
    rcases hs with rfl
    · intro tvs blks res h; exfalso; simp only [seg_transomref01_Count_0] at h; split at h <;> simp [transomref01_Count.s0] at h
  | k + 1 => by
    have ih := transomref01_Count.segs_ok k
    intro s hs
    simp only [env_transomref01_Count, List.mem_cons, List.not_mem_nil, or_false] at hs
    rcases hs with rfl
    · refine seg_of_ev (E := env_transomref01_Count (transomref01_Next.f k) (transomref01_Count.s0 k)) (transomref01_Count.envok _ _  (transomref01_Next.ok k)) ⟨(transomref01_Count.is (transomref01_Next.f k) (transomref01_Count.s0 k)).rvs⟩ ih ?_
      intro tvs blks res h
      simp only [seg_transomref01_Count_0] at h
      split at h
      · refine (transomref01_Count.s0_ev (transomref01_Next.f k) (transomref01_Count.s0 k) _ _ _ ).trans ?_
        rw [transomref01_Count.s0c_bind]
        exact h
      · simp at h
theorem transomref01_Count.ok (k : Nat) : CtOK Go.Proofs.Try.prog 56 (ct_transomref01_Count (transomref01_Count.f k)) := by
  refine ct_of_ev (E := env_transomref01_Count (transomref01_Next.f k) (transomref01_Count.s0 k)) (transomref01_Count.is _ _ ) (transomref01_Count.envok _ _  (transomref01_Next.ok k)) (transomref01_Count.segs_ok k) rfl ?_
  intro tvs blks res h
  simp only [ct_transomref01_Count] at h
  split at h
  · refine (transomref01_Count.ev (transomref01_Next.f k) (transomref01_Count.s0 k) _ ).trans ?_
    rw [transomref01_Count.c_bind]
    exact h
  · simp at h

/-! ### transomref01_Valid: function 44 -/
def ct_transomref01_Valid (g : ByteArray → Option Bool) : Ct where
  nin := 0
  mv := []
  F := fun tvs blks {β} K => match tvs, blks with
    | [.v (.one (.d .str a0))], [] => (g a0).bind fun r => K ⟨.v (.one (.d .bool r)), []⟩
    | _, _ => none
  legit := fun tvs blks K r h => by
    split at h
    · obtain ⟨x, hx, hk⟩ := Option.bind_eq_some_iff.1 h
      refine ⟨_, ?_, hk⟩
      simp only [hx, Option.bind_some]
    · simp at h
noncomputable def env_transomref01_Valid (g56 : ByteArray → Option Int)  : FEnv := { P := Go.Proofs.Try.prog, ct := fun m => if m = 56 then some (ct_transomref01_Count g56) else none, N := 6, body := Go.Proofs.Try.f44.body.getD .skip, rvs := [.tmp 2], rts := [4], nin := 0, rmv := [], segs := [] }
def transomref01_Valid.c {β : Type} (g56 : ByteArray → Option Int)  (a0 : ByteArray) (ret : Bool → Option β) : Option β := ((g56 a0).bind fun r0 => (ret ((decide (r0 ≥ (0 : Int))))))
theorem transomref01_Valid.c_bind {β : Type} (g56 : ByteArray → Option Int)  (a0 : ByteArray) (ret : Bool → Option β) : transomref01_Valid.c g56  a0 ret = (transomref01_Valid.c g56  a0 some).bind ret := by
  simp only [transomref01_Valid.c, bif_bind, sum_bind, Option.bind_assoc, Option.bind_some, Option.bind_none, Option.bind_fun_some]
theorem transomref01_Valid.ev (g56 : ByteArray → Option Int)  (a0 : ByteArray) : evAt (env_transomref01_Valid g56 ) [] [0] [.v (.one (.d .str a0))] [] some = transomref01_Valid.c g56  a0 (fun r => some ⟨.v (.one (.d .bool r)), []⟩) := by
  kernel_rfl
def transomref01_Valid.f (k : Nat) (a0 : ByteArray) : Option Bool := transomref01_Valid.c (transomref01_Count.f k)  a0 some
theorem transomref01_Valid.is (g56 : ByteArray → Option Int)  : FnIs (env_transomref01_Valid g56 ) 44 Go.Proofs.Try.f44 := ⟨Go.Proofs.Try.func44, rfl, rfl, rfl, by decide⟩
theorem transomref01_Valid.envok (g56 : ByteArray → Option Int)  (h56 : CtOK Go.Proofs.Try.prog 56 (ct_transomref01_Count g56)) : EnvOK (env_transomref01_Valid g56 ).toEnv := by
  intro f c h
  simp only [env_transomref01_Valid] at h
  split at h
  · rename_i e; subst e; cases h; exact h56
  simp at h
theorem transomref01_Valid.ok (k : Nat) : CtOK Go.Proofs.Try.prog 44 (ct_transomref01_Valid (transomref01_Valid.f k)) := by
  refine ct_of_ev (E := env_transomref01_Valid (transomref01_Count.f k) ) (transomref01_Valid.is _ ) (transomref01_Valid.envok _  (transomref01_Count.ok k)) (fun s hs => by simp [env_transomref01_Valid] at hs) rfl ?_
  intro tvs blks res h
  simp only [ct_transomref01_Valid] at h
  split at h
  · refine (transomref01_Valid.ev (transomref01_Count.f k)  _ ).trans ?_
    rw [transomref01_Valid.c_bind]
    exact h
  · simp at h
end Go.Proofs.Ytndkobhclggeiaa.Aev
