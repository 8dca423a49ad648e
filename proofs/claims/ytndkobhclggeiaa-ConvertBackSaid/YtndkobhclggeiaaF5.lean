/- By a program of this session (AEV): functions of the program as plain functions, and that the machine does what they say. -/
import Derived.Test.YtndkobhclggeiaaAevW
import Derived.Test.YtndkobhclggeiaaProg
import Derived.Laws.Externs
import Derived.Lib.Bytealg
import Derived.Test.YtndkobhclggeiaaF0
import Derived.Test.YtndkobhclggeiaaF1
import Derived.Test.YtndkobhclggeiaaF2
import Derived.Test.YtndkobhclggeiaaF3
import Derived.Test.YtndkobhclggeiaaF4
namespace Go.Proofs.Ytndkobhclggeiaa.Aev
set_option linter.unusedVariables false
set_option linter.unusedSimpArgs false
set_option maxRecDepth 100000
set_option maxHeartbeats 4000000
open Go
/-! ### convert_give_1: function 39 -/
def ct_convert_give_1 (g : Int → Int → Int → ByteArray → Option (Int × Int × Int × ByteArray × Int × Int × Int × Int × ByteArray)) : Ct where
  nin := 1
  mv := []
  F := fun tvs blks {β} K => match tvs, blks with
    | [.v (.one (.ptr 0 0))], [.box [(.d (.int .i64) a0), (.d (.int .i64) a1), (.d (.int .u64) a2), (.d .str a3)]] => (g a0 a1 a2 a3).bind fun r => K ⟨.tup [(.agg [(.d (.int .i64) r.1), (.d (.int .i64) r.2.1), (.d (.int .u64) r.2.2.1), (.d .str r.2.2.2.1)]), (.one (.d (.int .i64) r.2.2.2.2.1))], [some (.box [(.d (.int .i64) r.2.2.2.2.2.1), (.d (.int .i64) r.2.2.2.2.2.2.1), (.d (.int .u64) r.2.2.2.2.2.2.2.1), (.d .str r.2.2.2.2.2.2.2.2)])]⟩
    | _, _ => none
  legit := fun tvs blks K r h => by
    split at h
    · obtain ⟨x, hx, hk⟩ := Option.bind_eq_some_iff.1 h
      refine ⟨_, ?_, hk⟩
      simp only [hx, Option.bind_some]
    · simp at h
noncomputable def env_convert_give_1   : FEnv := { P := Go.Proofs.Try.prog, ct := fun m => none, N := 4, body := Go.Proofs.Try.f39.body.getD .skip, rvs := [.cell 1 24, .tmp 2], rts := [24, 27], nin := 1, rmv := [], segs := [] }
def convert_give_1.c {β : Type}   (a0 : Int) (a1 : Int) (a2 : Int) (a3 : ByteArray) (ret : (Int × Int × Int × ByteArray × Int × Int × Int × Int × ByteArray) → Option β) : Option β := (ret (a0, a1, a2, a3, (0 : Int), a0, a1, a2, a3))
theorem convert_give_1.c_bind {β : Type}   (a0 : Int) (a1 : Int) (a2 : Int) (a3 : ByteArray) (ret : (Int × Int × Int × ByteArray × Int × Int × Int × Int × ByteArray) → Option β) : convert_give_1.c   a0 a1 a2 a3 ret = (convert_give_1.c   a0 a1 a2 a3 some).bind ret := by
  simp only [convert_give_1.c, bif_bind, sum_bind, Option.bind_assoc, Option.bind_some, Option.bind_none, Option.bind_fun_some]
theorem convert_give_1.ev   (a0 : Int) (a1 : Int) (a2 : Int) (a3 : ByteArray) : evAt (env_convert_give_1  ) [] [0] [.v (.one (.ptr 0 0))] [some (.box [(.d (.int .i64) a0), (.d (.int .i64) a1), (.d (.int .u64) a2), (.d .str a3)])] some = convert_give_1.c   a0 a1 a2 a3 (fun r => some ⟨.tup [(.agg [(.d (.int .i64) r.1), (.d (.int .i64) r.2.1), (.d (.int .u64) r.2.2.1), (.d .str r.2.2.2.1)]), (.one (.d (.int .i64) r.2.2.2.2.1))], [some (.box [(.d (.int .i64) r.2.2.2.2.2.1), (.d (.int .i64) r.2.2.2.2.2.2.1), (.d (.int .u64) r.2.2.2.2.2.2.2.1), (.d .str r.2.2.2.2.2.2.2.2)])]⟩) := by
  kernel_rfl
def convert_give_1.f (k : Nat) (a0 : Int) (a1 : Int) (a2 : Int) (a3 : ByteArray) : Option (Int × Int × Int × ByteArray × Int × Int × Int × Int × ByteArray) := convert_give_1.c   a0 a1 a2 a3 some
theorem convert_give_1.is   : FnIs (env_convert_give_1  ) 39 Go.Proofs.Try.f39 := ⟨Go.Proofs.Try.func39, rfl, rfl, rfl, by decide⟩
theorem convert_give_1.envok    : EnvOK (env_convert_give_1  ).toEnv := by
  intro f c h
  simp only [env_convert_give_1] at h
  simp at h
theorem convert_give_1.ok (k : Nat) : CtOK Go.Proofs.Try.prog 39 (ct_convert_give_1 (convert_give_1.f k)) := by
  refine ct_of_ev (E := env_convert_give_1  ) (convert_give_1.is ) (convert_give_1.envok  ) (fun s hs => by simp [env_convert_give_1] at hs) rfl ?_
  intro tvs blks res h
  simp only [ct_convert_give_1] at h
  split at h
  · refine (convert_give_1.ev   _ _ _ _ ).trans ?_
    rw [convert_give_1.c_bind]
    exact h
  · simp at h

/-! ### convert_To: function 9 -/
def ct_convert_To (g : Int → Int → Int → ByteArray → Int → Option (Int × Int × Int × ByteArray × Int)) : Ct where
  nin := 0
  mv := []
  F := fun tvs blks {β} K => match tvs, blks with
    | [.v (.agg [(.d (.int .i64) a0), (.d (.int .i64) a1), (.d (.int .u64) a2), (.d .str a3)]), .v (.one (.d (.int .i64) a4))], [] => (g a0 a1 a2 a3 a4).bind fun r => K ⟨.tup [(.agg [(.d (.int .i64) r.1), (.d (.int .i64) r.2.1), (.d (.int .u64) r.2.2.1), (.d .str r.2.2.2.1)]), (.one (.d (.int .i64) r.2.2.2.2))], []⟩
    | _, _ => none
  legit := fun tvs blks K r h => by
    split at h
    · obtain ⟨x, hx, hk⟩ := Option.bind_eq_some_iff.1 h
      refine ⟨_, ?_, hk⟩
      simp only [hx, Option.bind_some]
    · simp at h
def seg_convert_To_0 (g : Int → Bool → Int → Int → Int → ByteArray → Int → Int → Int → ByteArray → Int → Option (Int × Int × Int × ByteArray × Int)) : Seg where
  path := [1, 4, 0, 1, 1, 1]
  prep := []
  keep := [1, 2, 4, 7, 19]
  F := fun tvs blks {β} K => match tvs, blks with
    | [.v (.one (.d (.int .i64) x0)), .v (.one (.ptr 0 0)), .v (.one (.ptr 1 0)), .v (.one (.fn 38 [(2, 0)])), .v (.one (.d .bool x1))], [some (.box [(.d (.int .i64) x2), (.d (.int .i64) x3), (.d (.int .u64) x4), (.d .str x5)]), some (.box [(.d (.int .i64) x6), (.d (.int .i64) x7), (.d (.int .u64) x8), (.d .str x9)]), some (.box [(.d (.int .i64) x10)])] => (g x0 x1 x2 x3 x4 x5 x6 x7 x8 x9 x10).bind fun r => K ⟨.tup [(.agg [(.d (.int .i64) r.1), (.d (.int .i64) r.2.1), (.d (.int .u64) r.2.2.1), (.d .str r.2.2.2.1)]), (.one (.d (.int .i64) r.2.2.2.2))], []⟩
    | _, _ => none
  legit := fun tvs blks K r h => by
    split at h
    · obtain ⟨x, hx, hk⟩ := Option.bind_eq_some_iff.1 h
      refine ⟨_, ?_, hk⟩
      simp only [hx, Option.bind_some]
    · simp at h
def seg_convert_To_1 (g : Int → Bool → Int → Int → Int → ByteArray → Int → Int → Int → ByteArray → Int → Option (Int × Int × Int × ByteArray × Int)) : Seg where
  path := [1, 3, 1, 4, 0, 1, 1, 1]
  prep := []
  keep := [1, 2, 4, 7, 26]
  F := fun tvs blks {β} K => match tvs, blks with
    | [.v (.one (.d (.int .i64) x0)), .v (.one (.ptr 0 0)), .v (.one (.ptr 1 0)), .v (.one (.fn 38 [(2, 0)])), .v (.one (.d .bool x1))], [some (.box [(.d (.int .i64) x2), (.d (.int .i64) x3), (.d (.int .u64) x4), (.d .str x5)]), some (.box [(.d (.int .i64) x6), (.d (.int .i64) x7), (.d (.int .u64) x8), (.d .str x9)]), some (.box [(.d (.int .i64) x10)])] => (g x0 x1 x2 x3 x4 x5 x6 x7 x8 x9 x10).bind fun r => K ⟨.tup [(.agg [(.d (.int .i64) r.1), (.d (.int .i64) r.2.1), (.d (.int .u64) r.2.2.1), (.d .str r.2.2.2.1)]), (.one (.d (.int .i64) r.2.2.2.2))], []⟩
    | _, _ => none
  legit := fun tvs blks K r h => by
    split at h
    · obtain ⟨x, hx, hk⟩ := Option.bind_eq_some_iff.1 h
      refine ⟨_, ?_, hk⟩
      simp only [hx, Option.bind_some]
    · simp at h
noncomputable def env_convert_To (g12 : Int → Int → Option Bool) (g18 : Int → Int → Int → ByteArray → Option Int) (g21 : Int → Option Int) (g22 : Int → Int → Int → ByteArray → Option (Int × Int × Int × ByteArray)) (g23 : Int → Int → Option ((Int × Int × Int × ByteArray) ⊕ Int)) (g24 : Int → Int → Option (Int ⊕ (Int × Int × Int × ByteArray))) (g25 : Int → Int → Option ((Int × Int × Int × ByteArray) ⊕ Int)) (g26 : ByteArray → Int → Option (Int ⊕ (Int × Int × Int × ByteArray))) (g27 : ByteArray → Int → Option ((Int × Int × Int × ByteArray) ⊕ Int)) (g38 : Int → Option (Int × Int × Int × ByteArray × Int × Int)) (g39 : Int → Int → Int → ByteArray → Option (Int × Int × Int × ByteArray × Int × Int × Int × Int × ByteArray)) (s0 : Int → Bool → Int → Int → Int → ByteArray → Int → Int → Int → ByteArray → Int → Option (Int × Int × Int × ByteArray × Int)) (s1 : Int → Bool → Int → Int → Int → ByteArray → Int → Int → Int → ByteArray → Int → Option (Int × Int × Int × ByteArray × Int)) : FEnv := { P := Go.Proofs.Try.prog, ct := fun m => if m = 12 then some (ct_convert_Can g12) else if m = 18 then some (ct_values_Check g18) else if m = 21 then some (ct_convert_refuse g21) else if m = 22 then some (ct_convert_give g22) else if m = 23 then some (ct_convert_ofBool g23) else if m = 24 then some (ct_convert_ofInt g24) else if m = 25 then some (ct_convert_ofReal g25) else if m = 26 then some (ct_convert_ofBytes g26) else if m = 27 then some (ct_convert_ofText g27) else if m = 38 then some (ct_convert_refuse_1 g38) else if m = 39 then some (ct_convert_give_1 g39) else none, N := 80, body := Go.Proofs.Try.f9.body.getD .skip, rvs := [.cell 4 24, .tmp 5], rts := [24, 27], nin := 0, rmv := [], segs := [seg_convert_To_0 s0, seg_convert_To_1 s1] }
def convert_To.c {β : Type} (g12 : Int → Int → Option Bool) (g18 : Int → Int → Int → ByteArray → Option Int) (g21 : Int → Option Int) (g22 : Int → Int → Int → ByteArray → Option (Int × Int × Int × ByteArray)) (g23 : Int → Int → Option ((Int × Int × Int × ByteArray) ⊕ Int)) (g24 : Int → Int → Option (Int ⊕ (Int × Int × Int × ByteArray))) (g25 : Int → Int → Option ((Int × Int × Int × ByteArray) ⊕ Int)) (g26 : ByteArray → Int → Option (Int ⊕ (Int × Int × Int × ByteArray))) (g27 : ByteArray → Int → Option ((Int × Int × Int × ByteArray) ⊕ Int)) (g38 : Int → Option (Int × Int × Int × ByteArray × Int × Int)) (g39 : Int → Int → Int → ByteArray → Option (Int × Int × Int × ByteArray × Int × Int × Int × Int × ByteArray)) (s0 : Int → Bool → Int → Int → Int → ByteArray → Int → Int → Int → ByteArray → Int → Option (Int × Int × Int × ByteArray × Int)) (s1 : Int → Bool → Int → Int → Int → ByteArray → Int → Int → Int → ByteArray → Int → Option (Int × Int × Int × ByteArray × Int)) (a0 : Int) (a1 : Int) (a2 : Int) (a3 : ByteArray) (a4 : Int) (ret : (Int × Int × Int × ByteArray × Int) → Option β) : Option β := ((g18 a0 a1 a2 a3).bind fun r0 => (bif (r0 != (0 : Int)) then (ret ((0 : Int), (0 : Int), (0 : Int), (ByteArray.mk (List.toArray [])), r0)) else ((g21 (5 : Int)).bind fun r1 => (bif (decide (a4 < (1 : Int))) then ((s0 a4 true a0 a1 a2 a3 (0 : Int) (0 : Int) (0 : Int) (ByteArray.mk (List.toArray [])) r1).bind ret) else ((s0 a4 (decide (a4 > (5 : Int))) a0 a1 a2 a3 (0 : Int) (0 : Int) (0 : Int) (ByteArray.mk (List.toArray [])) r1).bind ret)))))
def convert_To.s0c {β : Type} (g12 : Int → Int → Option Bool) (g18 : Int → Int → Int → ByteArray → Option Int) (g21 : Int → Option Int) (g22 : Int → Int → Int → ByteArray → Option (Int × Int × Int × ByteArray)) (g23 : Int → Int → Option ((Int × Int × Int × ByteArray) ⊕ Int)) (g24 : Int → Int → Option (Int ⊕ (Int × Int × Int × ByteArray))) (g25 : Int → Int → Option ((Int × Int × Int × ByteArray) ⊕ Int)) (g26 : ByteArray → Int → Option (Int ⊕ (Int × Int × Int × ByteArray))) (g27 : ByteArray → Int → Option ((Int × Int × Int × ByteArray) ⊕ Int)) (g38 : Int → Option (Int × Int × Int × ByteArray × Int × Int)) (g39 : Int → Int → Int → ByteArray → Option (Int × Int × Int × ByteArray × Int × Int × Int × Int × ByteArray)) (s0 : Int → Bool → Int → Int → Int → ByteArray → Int → Int → Int → ByteArray → Int → Option (Int × Int × Int × ByteArray × Int)) (s1 : Int → Bool → Int → Int → Int → ByteArray → Int → Int → Int → ByteArray → Int → Option (Int × Int × Int × ByteArray × Int)) (x0 : Int) (x1 : Bool) (x2 : Int) (x3 : Int) (x4 : Int) (x5 : ByteArray) (x6 : Int) (x7 : Int) (x8 : Int) (x9 : ByteArray) (x10 : Int) (ret : (Int × Int × Int × ByteArray × Int) → Option β) : Option β := (bif x1 then ((g38 x10).bind fun r0 => (ret (r0.1, r0.2.1, r0.2.2.1, r0.2.2.2.1, r0.2.2.2.2.1))) else (bif (x2 == (0 : Int)) then ((s1 x0 true x2 x3 x4 x5 x6 x7 x8 x9 x10).bind ret) else ((s1 x0 (x2 == x0) x2 x3 x4 x5 x6 x7 x8 x9 x10).bind ret)))
def convert_To.s1c {β : Type} (g12 : Int → Int → Option Bool) (g18 : Int → Int → Int → ByteArray → Option Int) (g21 : Int → Option Int) (g22 : Int → Int → Int → ByteArray → Option (Int × Int × Int × ByteArray)) (g23 : Int → Int → Option ((Int × Int × Int × ByteArray) ⊕ Int)) (g24 : Int → Int → Option (Int ⊕ (Int × Int × Int × ByteArray))) (g25 : Int → Int → Option ((Int × Int × Int × ByteArray) ⊕ Int)) (g26 : ByteArray → Int → Option (Int ⊕ (Int × Int × Int × ByteArray))) (g27 : ByteArray → Int → Option ((Int × Int × Int × ByteArray) ⊕ Int)) (g38 : Int → Option (Int × Int × Int × ByteArray × Int × Int)) (g39 : Int → Int → Int → ByteArray → Option (Int × Int × Int × ByteArray × Int × Int × Int × Int × ByteArray)) (s0 : Int → Bool → Int → Int → Int → ByteArray → Int → Int → Int → ByteArray → Int → Option (Int × Int × Int × ByteArray × Int)) (s1 : Int → Bool → Int → Int → Int → ByteArray → Int → Int → Int → ByteArray → Int → Option (Int × Int × Int × ByteArray × Int)) (x0 : Int) (x1 : Bool) (x2 : Int) (x3 : Int) (x4 : Int) (x5 : ByteArray) (x6 : Int) (x7 : Int) (x8 : Int) (x9 : ByteArray) (x10 : Int) (ret : (Int × Int × Int × ByteArray × Int) → Option β) : Option β := (bif x1 then ((g22 x2 x3 x4 x5).bind fun r0 => ((g39 r0.1 r0.2.1 r0.2.2.1 r0.2.2.2).bind fun r1 => (ret (r1.1, r1.2.1, r1.2.2.1, r1.2.2.2.1, r1.2.2.2.2.1)))) else ((g12 x2 x0).bind fun r2 => (bif (!r2) then ((g38 x10).bind fun r3 => (ret (r3.1, r3.2.1, r3.2.2.1, r3.2.2.2.1, r3.2.2.2.2.1))) else (bif (x2 == (1 : Int)) then ((g23 x3 x0).bind fun r4 => (Sum.elim (fun r5 => ((g39 r5.1 r5.2.1 r5.2.2.1 r5.2.2.2).bind fun r6 => (ret (r6.1, r6.2.1, r6.2.2.1, r6.2.2.2.1, r6.2.2.2.2.1)))) (fun r7 => ((g38 r7).bind fun r8 => (ret (r8.1, r8.2.1, r8.2.2.1, r8.2.2.2.1, r8.2.2.2.2.1)))) r4)) else (bif (x2 == (2 : Int)) then ((g24 x3 x0).bind fun r9 => (Sum.elim (fun r10 => ((g38 r10).bind fun r11 => (ret (r11.1, r11.2.1, r11.2.2.1, r11.2.2.2.1, r11.2.2.2.2.1)))) (fun r12 => ((g39 r12.1 r12.2.1 r12.2.2.1 r12.2.2.2).bind fun r13 => (ret (r13.1, r13.2.1, r13.2.2.1, r13.2.2.2.1, r13.2.2.2.2.1)))) r9)) else (bif (x2 == (3 : Int)) then ((g25 x4 x0).bind fun r14 => (Sum.elim (fun r15 => ((g39 r15.1 r15.2.1 r15.2.2.1 r15.2.2.2).bind fun r16 => (ret (r16.1, r16.2.1, r16.2.2.1, r16.2.2.2.1, r16.2.2.2.2.1)))) (fun r17 => ((g38 r17).bind fun r18 => (ret (r18.1, r18.2.1, r18.2.2.1, r18.2.2.2.1, r18.2.2.2.2.1)))) r14)) else (bif (x2 == (4 : Int)) then ((g26 x5 x0).bind fun r19 => (Sum.elim (fun r20 => ((g38 r20).bind fun r21 => (ret (r21.1, r21.2.1, r21.2.2.1, r21.2.2.2.1, r21.2.2.2.2.1)))) (fun r22 => ((g39 r22.1 r22.2.1 r22.2.2.1 r22.2.2.2).bind fun r23 => (ret (r23.1, r23.2.1, r23.2.2.1, r23.2.2.2.1, r23.2.2.2.2.1)))) r19)) else ((g27 x5 x0).bind fun r24 => (Sum.elim (fun r25 => ((g39 r25.1 r25.2.1 r25.2.2.1 r25.2.2.2).bind fun r26 => (ret (r26.1, r26.2.1, r26.2.2.1, r26.2.2.2.1, r26.2.2.2.2.1)))) (fun r27 => ((g38 r27).bind fun r28 => (ret (r28.1, r28.2.1, r28.2.2.1, r28.2.2.2.1, r28.2.2.2.2.1)))) r24)))))))))
theorem convert_To.c_bind {β : Type} (g12 : Int → Int → Option Bool) (g18 : Int → Int → Int → ByteArray → Option Int) (g21 : Int → Option Int) (g22 : Int → Int → Int → ByteArray → Option (Int × Int × Int × ByteArray)) (g23 : Int → Int → Option ((Int × Int × Int × ByteArray) ⊕ Int)) (g24 : Int → Int → Option (Int ⊕ (Int × Int × Int × ByteArray))) (g25 : Int → Int → Option ((Int × Int × Int × ByteArray) ⊕ Int)) (g26 : ByteArray → Int → Option (Int ⊕ (Int × Int × Int × ByteArray))) (g27 : ByteArray → Int → Option ((Int × Int × Int × ByteArray) ⊕ Int)) (g38 : Int → Option (Int × Int × Int × ByteArray × Int × Int)) (g39 : Int → Int → Int → ByteArray → Option (Int × Int × Int × ByteArray × Int × Int × Int × Int × ByteArray)) (s0 : Int → Bool → Int → Int → Int → ByteArray → Int → Int → Int → ByteArray → Int → Option (Int × Int × Int × ByteArray × Int)) (s1 : Int → Bool → Int → Int → Int → ByteArray → Int → Int → Int → ByteArray → Int → Option (Int × Int × Int × ByteArray × Int)) (a0 : Int) (a1 : Int) (a2 : Int) (a3 : ByteArray) (a4 : Int) (ret : (Int × Int × Int × ByteArray × Int) → Option β) : convert_To.c g12 g18 g21 g22 g23 g24 g25 g26 g27 g38 g39 s0 s1 a0 a1 a2 a3 a4 ret = (convert_To.c g12 g18 g21 g22 g23 g24 g25 g26 g27 g38 g39 s0 s1 a0 a1 a2 a3 a4 some).bind ret := by
  simp only [convert_To.c, bif_bind, sum_bind, Option.bind_assoc, Option.bind_some, Option.bind_none, Option.bind_fun_some]
theorem convert_To.s0c_bind {β : Type} (g12 : Int → Int → Option Bool) (g18 : Int → Int → Int → ByteArray → Option Int) (g21 : Int → Option Int) (g22 : Int → Int → Int → ByteArray → Option (Int × Int × Int × ByteArray)) (g23 : Int → Int → Option ((Int × Int × Int × ByteArray) ⊕ Int)) (g24 : Int → Int → Option (Int ⊕ (Int × Int × Int × ByteArray))) (g25 : Int → Int → Option ((Int × Int × Int × ByteArray) ⊕ Int)) (g26 : ByteArray → Int → Option (Int ⊕ (Int × Int × Int × ByteArray))) (g27 : ByteArray → Int → Option ((Int × Int × Int × ByteArray) ⊕ Int)) (g38 : Int → Option (Int × Int × Int × ByteArray × Int × Int)) (g39 : Int → Int → Int → ByteArray → Option (Int × Int × Int × ByteArray × Int × Int × Int × Int × ByteArray)) (s0 : Int → Bool → Int → Int → Int → ByteArray → Int → Int → Int → ByteArray → Int → Option (Int × Int × Int × ByteArray × Int)) (s1 : Int → Bool → Int → Int → Int → ByteArray → Int → Int → Int → ByteArray → Int → Option (Int × Int × Int × ByteArray × Int)) (x0 : Int) (x1 : Bool) (x2 : Int) (x3 : Int) (x4 : Int) (x5 : ByteArray) (x6 : Int) (x7 : Int) (x8 : Int) (x9 : ByteArray) (x10 : Int) (ret : (Int × Int × Int × ByteArray × Int) → Option β) : convert_To.s0c g12 g18 g21 g22 g23 g24 g25 g26 g27 g38 g39 s0 s1 x0 x1 x2 x3 x4 x5 x6 x7 x8 x9 x10 ret = (convert_To.s0c g12 g18 g21 g22 g23 g24 g25 g26 g27 g38 g39 s0 s1 x0 x1 x2 x3 x4 x5 x6 x7 x8 x9 x10 some).bind ret := by
  simp only [convert_To.s0c, bif_bind, sum_bind, Option.bind_assoc, Option.bind_some, Option.bind_none, Option.bind_fun_some]
theorem convert_To.s1c_bind {β : Type} (g12 : Int → Int → Option Bool) (g18 : Int → Int → Int → ByteArray → Option Int) (g21 : Int → Option Int) (g22 : Int → Int → Int → ByteArray → Option (Int × Int × Int × ByteArray)) (g23 : Int → Int → Option ((Int × Int × Int × ByteArray) ⊕ Int)) (g24 : Int → Int → Option (Int ⊕ (Int × Int × Int × ByteArray))) (g25 : Int → Int → Option ((Int × Int × Int × ByteArray) ⊕ Int)) (g26 : ByteArray → Int → Option (Int ⊕ (Int × Int × Int × ByteArray))) (g27 : ByteArray → Int → Option ((Int × Int × Int × ByteArray) ⊕ Int)) (g38 : Int → Option (Int × Int × Int × ByteArray × Int × Int)) (g39 : Int → Int → Int → ByteArray → Option (Int × Int × Int × ByteArray × Int × Int × Int × Int × ByteArray)) (s0 : Int → Bool → Int → Int → Int → ByteArray → Int → Int → Int → ByteArray → Int → Option (Int × Int × Int × ByteArray × Int)) (s1 : Int → Bool → Int → Int → Int → ByteArray → Int → Int → Int → ByteArray → Int → Option (Int × Int × Int × ByteArray × Int)) (x0 : Int) (x1 : Bool) (x2 : Int) (x3 : Int) (x4 : Int) (x5 : ByteArray) (x6 : Int) (x7 : Int) (x8 : Int) (x9 : ByteArray) (x10 : Int) (ret : (Int × Int × Int × ByteArray × Int) → Option β) : convert_To.s1c g12 g18 g21 g22 g23 g24 g25 g26 g27 g38 g39 s0 s1 x0 x1 x2 x3 x4 x5 x6 x7 x8 x9 x10 ret = (convert_To.s1c g12 g18 g21 g22 g23 g24 g25 g26 g27 g38 g39 s0 s1 x0 x1 x2 x3 x4 x5 x6 x7 x8 x9 x10 some).bind ret := by
  simp only [convert_To.s1c, bif_bind, sum_bind, Option.bind_assoc, Option.bind_some, Option.bind_none, Option.bind_fun_some]
theorem convert_To.ev (g12 : Int → Int → Option Bool) (g18 : Int → Int → Int → ByteArray → Option Int) (g21 : Int → Option Int) (g22 : Int → Int → Int → ByteArray → Option (Int × Int × Int × ByteArray)) (g23 : Int → Int → Option ((Int × Int × Int × ByteArray) ⊕ Int)) (g24 : Int → Int → Option (Int ⊕ (Int × Int × Int × ByteArray))) (g25 : Int → Int → Option ((Int × Int × Int × ByteArray) ⊕ Int)) (g26 : ByteArray → Int → Option (Int ⊕ (Int × Int × Int × ByteArray))) (g27 : ByteArray → Int → Option ((Int × Int × Int × ByteArray) ⊕ Int)) (g38 : Int → Option (Int × Int × Int × ByteArray × Int × Int)) (g39 : Int → Int → Int → ByteArray → Option (Int × Int × Int × ByteArray × Int × Int × Int × Int × ByteArray)) (s0 : Int → Bool → Int → Int → Int → ByteArray → Int → Int → Int → ByteArray → Int → Option (Int × Int × Int × ByteArray × Int)) (s1 : Int → Bool → Int → Int → Int → ByteArray → Int → Int → Int → ByteArray → Int → Option (Int × Int × Int × ByteArray × Int)) (a0 : Int) (a1 : Int) (a2 : Int) (a3 : ByteArray) (a4 : Int) : evAt (env_convert_To g12 g18 g21 g22 g23 g24 g25 g26 g27 g38 g39 s0 s1) [] [0, 1] [.v (.agg [(.d (.int .i64) a0), (.d (.int .i64) a1), (.d (.int .u64) a2), (.d .str a3)]), .v (.one (.d (.int .i64) a4))] [] some = convert_To.c g12 g18 g21 g22 g23 g24 g25 g26 g27 g38 g39 s0 s1 a0 a1 a2 a3 a4 (fun r => some ⟨.tup [(.agg [(.d (.int .i64) r.1), (.d (.int .i64) r.2.1), (.d (.int .u64) r.2.2.1), (.d .str r.2.2.2.1)]), (.one (.d (.int .i64) r.2.2.2.2))], []⟩) := by
  kernel_rfl
theorem convert_To.s0_ev (g12 : Int → Int → Option Bool) (g18 : Int → Int → Int → ByteArray → Option Int) (g21 : Int → Option Int) (g22 : Int → Int → Int → ByteArray → Option (Int × Int × Int × ByteArray)) (g23 : Int → Int → Option ((Int × Int × Int × ByteArray) ⊕ Int)) (g24 : Int → Int → Option (Int ⊕ (Int × Int × Int × ByteArray))) (g25 : Int → Int → Option ((Int × Int × Int × ByteArray) ⊕ Int)) (g26 : ByteArray → Int → Option (Int ⊕ (Int × Int × Int × ByteArray))) (g27 : ByteArray → Int → Option ((Int × Int × Int × ByteArray) ⊕ Int)) (g38 : Int → Option (Int × Int × Int × ByteArray × Int × Int)) (g39 : Int → Int → Int → ByteArray → Option (Int × Int × Int × ByteArray × Int × Int × Int × Int × ByteArray)) (s0 : Int → Bool → Int → Int → Int → ByteArray → Int → Int → Int → ByteArray → Int → Option (Int × Int × Int × ByteArray × Int)) (s1 : Int → Bool → Int → Int → Int → ByteArray → Int → Int → Int → ByteArray → Int → Option (Int × Int × Int × ByteArray × Int)) (x0 : Int) (x1 : Bool) (x2 : Int) (x3 : Int) (x4 : Int) (x5 : ByteArray) (x6 : Int) (x7 : Int) (x8 : Int) (x9 : ByteArray) (x10 : Int) : evAt (env_convert_To g12 g18 g21 g22 g23 g24 g25 g26 g27 g38 g39 s0 s1) [1, 4, 0, 1, 1, 1] [1, 2, 4, 7, 19] [.v (.one (.d (.int .i64) x0)), .v (.one (.ptr 0 0)), .v (.one (.ptr 1 0)), .v (.one (.fn 38 [(2, 0)])), .v (.one (.d .bool x1))] [some (.box [(.d (.int .i64) x2), (.d (.int .i64) x3), (.d (.int .u64) x4), (.d .str x5)]), some (.box [(.d (.int .i64) x6), (.d (.int .i64) x7), (.d (.int .u64) x8), (.d .str x9)]), some (.box [(.d (.int .i64) x10)])] some = convert_To.s0c g12 g18 g21 g22 g23 g24 g25 g26 g27 g38 g39 s0 s1 x0 x1 x2 x3 x4 x5 x6 x7 x8 x9 x10 (fun r => some ⟨.tup [(.agg [(.d (.int .i64) r.1), (.d (.int .i64) r.2.1), (.d (.int .u64) r.2.2.1), (.d .str r.2.2.2.1)]), (.one (.d (.int .i64) r.2.2.2.2))], []⟩) := by
  kernel_rfl
theorem convert_To.s1_ev (g12 : Int → Int → Option Bool) (g18 : Int → Int → Int → ByteArray → Option Int) (g21 : Int → Option Int) (g22 : Int → Int → Int → ByteArray → Option (Int × Int × Int × ByteArray)) (g23 : Int → Int → Option ((Int × Int × Int × ByteArray) ⊕ Int)) (g24 : Int → Int → Option (Int ⊕ (Int × Int × Int × ByteArray))) (g25 : Int → Int → Option ((Int × Int × Int × ByteArray) ⊕ Int)) (g26 : ByteArray → Int → Option (Int ⊕ (Int × Int × Int × ByteArray))) (g27 : ByteArray → Int → Option ((Int × Int × Int × ByteArray) ⊕ Int)) (g38 : Int → Option (Int × Int × Int × ByteArray × Int × Int)) (g39 : Int → Int → Int → ByteArray → Option (Int × Int × Int × ByteArray × Int × Int × Int × Int × ByteArray)) (s0 : Int → Bool → Int → Int → Int → ByteArray → Int → Int → Int → ByteArray → Int → Option (Int × Int × Int × ByteArray × Int)) (s1 : Int → Bool → Int → Int → Int → ByteArray → Int → Int → Int → ByteArray → Int → Option (Int × Int × Int × ByteArray × Int)) (x0 : Int) (x1 : Bool) (x2 : Int) (x3 : Int) (x4 : Int) (x5 : ByteArray) (x6 : Int) (x7 : Int) (x8 : Int) (x9 : ByteArray) (x10 : Int) : evAt (env_convert_To g12 g18 g21 g22 g23 g24 g25 g26 g27 g38 g39 s0 s1) [1, 3, 1, 4, 0, 1, 1, 1] [1, 2, 4, 7, 26] [.v (.one (.d (.int .i64) x0)), .v (.one (.ptr 0 0)), .v (.one (.ptr 1 0)), .v (.one (.fn 38 [(2, 0)])), .v (.one (.d .bool x1))] [some (.box [(.d (.int .i64) x2), (.d (.int .i64) x3), (.d (.int .u64) x4), (.d .str x5)]), some (.box [(.d (.int .i64) x6), (.d (.int .i64) x7), (.d (.int .u64) x8), (.d .str x9)]), some (.box [(.d (.int .i64) x10)])] some = convert_To.s1c g12 g18 g21 g22 g23 g24 g25 g26 g27 g38 g39 s0 s1 x0 x1 x2 x3 x4 x5 x6 x7 x8 x9 x10 (fun r => some ⟨.tup [(.agg [(.d (.int .i64) r.1), (.d (.int .i64) r.2.1), (.d (.int .u64) r.2.2.1), (.d .str r.2.2.2.1)]), (.one (.d (.int .i64) r.2.2.2.2))], []⟩) := by
  kernel_rfl
mutual
def convert_To.s0 : Nat → Int → Bool → Int → Int → Int → ByteArray → Int → Int → Int → ByteArray → Int → Option (Int × Int × Int × ByteArray × Int)
  | 0, _, _, _, _, _, _, _, _, _, _, _ => none
  | k + 1, x0, x1, x2, x3, x4, x5, x6, x7, x8, x9, x10 => convert_To.s0c (convert_Can.f k) (values_Check.f k) (convert_refuse.f k) (convert_give.f k) (convert_ofBool.f k) (convert_ofInt.f k) (convert_ofReal.f k) (convert_ofBytes.f k) (convert_ofText.f k) (convert_refuse_1.f k) (convert_give_1.f k) (convert_To.s0 k) (convert_To.s1 k) x0 x1 x2 x3 x4 x5 x6 x7 x8 x9 x10 some
def convert_To.s1 : Nat → Int → Bool → Int → Int → Int → ByteArray → Int → Int → Int → ByteArray → Int → Option (Int × Int × Int × ByteArray × Int)
  | 0, _, _, _, _, _, _, _, _, _, _, _ => none
  | k + 1, x0, x1, x2, x3, x4, x5, x6, x7, x8, x9, x10 => convert_To.s1c (convert_Can.f k) (values_Check.f k) (convert_refuse.f k) (convert_give.f k) (convert_ofBool.f k) (convert_ofInt.f k) (convert_ofReal.f k) (convert_ofBytes.f k) (convert_ofText.f k) (convert_refuse_1.f k) (convert_give_1.f k) (convert_To.s0 k) (convert_To.s1 k) x0 x1 x2 x3 x4 x5 x6 x7 x8 x9 x10 some
end
def convert_To.f (k : Nat) (a0 : Int) (a1 : Int) (a2 : Int) (a3 : ByteArray) (a4 : Int) : Option (Int × Int × Int × ByteArray × Int) := convert_To.c (convert_Can.f k) (values_Check.f k) (convert_refuse.f k) (convert_give.f k) (convert_ofBool.f k) (convert_ofInt.f k) (convert_ofReal.f k) (convert_ofBytes.f k) (convert_ofText.f k) (convert_refuse_1.f k) (convert_give_1.f k) (convert_To.s0 k) (convert_To.s1 k) a0 a1 a2 a3 a4 some
theorem convert_To.is (g12 : Int → Int → Option Bool) (g18 : Int → Int → Int → ByteArray → Option Int) (g21 : Int → Option Int) (g22 : Int → Int → Int → ByteArray → Option (Int × Int × Int × ByteArray)) (g23 : Int → Int → Option ((Int × Int × Int × ByteArray) ⊕ Int)) (g24 : Int → Int → Option (Int ⊕ (Int × Int × Int × ByteArray))) (g25 : Int → Int → Option ((Int × Int × Int × ByteArray) ⊕ Int)) (g26 : ByteArray → Int → Option (Int ⊕ (Int × Int × Int × ByteArray))) (g27 : ByteArray → Int → Option ((Int × Int × Int × ByteArray) ⊕ Int)) (g38 : Int → Option (Int × Int × Int × ByteArray × Int × Int)) (g39 : Int → Int → Int → ByteArray → Option (Int × Int × Int × ByteArray × Int × Int × Int × Int × ByteArray)) (s0 : Int → Bool → Int → Int → Int → ByteArray → Int → Int → Int → ByteArray → Int → Option (Int × Int × Int × ByteArray × Int)) (s1 : Int → Bool → Int → Int → Int → ByteArray → Int → Int → Int → ByteArray → Int → Option (Int × Int × Int × ByteArray × Int)) : FnIs (env_convert_To g12 g18 g21 g22 g23 g24 g25 g26 g27 g38 g39 s0 s1) 9 Go.Proofs.Try.f9 := ⟨Go.Proofs.Try.func9, rfl, rfl, rfl, by decide⟩
theorem convert_To.envok (g12 : Int → Int → Option Bool) (g18 : Int → Int → Int → ByteArray → Option Int) (g21 : Int → Option Int) (g22 : Int → Int → Int → ByteArray → Option (Int × Int × Int × ByteArray)) (g23 : Int → Int → Option ((Int × Int × Int × ByteArray) ⊕ Int)) (g24 : Int → Int → Option (Int ⊕ (Int × Int × Int × ByteArray))) (g25 : Int → Int → Option ((Int × Int × Int × ByteArray) ⊕ Int)) (g26 : ByteArray → Int → Option (Int ⊕ (Int × Int × Int × ByteArray))) (g27 : ByteArray → Int → Option ((Int × Int × Int × ByteArray) ⊕ Int)) (g38 : Int → Option (Int × Int × Int × ByteArray × Int × Int)) (g39 : Int → Int → Int → ByteArray → Option (Int × Int × Int × ByteArray × Int × Int × Int × Int × ByteArray)) (s0 : Int → Bool → Int → Int → Int → ByteArray → Int → Int → Int → ByteArray → Int → Option (Int × Int × Int × ByteArray × Int)) (s1 : Int → Bool → Int → Int → Int → ByteArray → Int → Int → Int → ByteArray → Int → Option (Int × Int × Int × ByteArray × Int)) (h12 : CtOK Go.Proofs.Try.prog 12 (ct_convert_Can g12)) (h18 : CtOK Go.Proofs.Try.prog 18 (ct_values_Check g18)) (h21 : CtOK Go.Proofs.Try.prog 21 (ct_convert_refuse g21)) (h22 : CtOK Go.Proofs.Try.prog 22 (ct_convert_give g22)) (h23 : CtOK Go.Proofs.Try.prog 23 (ct_convert_ofBool g23)) (h24 : CtOK Go.Proofs.Try.prog 24 (ct_convert_ofInt g24)) (h25 : CtOK Go.Proofs.Try.prog 25 (ct_convert_ofReal g25)) (h26 : CtOK Go.Proofs.Try.prog 26 (ct_convert_ofBytes g26)) (h27 : CtOK Go.Proofs.Try.prog 27 (ct_convert_ofText g27)) (h38 : CtOK Go.Proofs.Try.prog 38 (ct_convert_refuse_1 g38)) (h39 : CtOK Go.Proofs.Try.prog 39 (ct_convert_give_1 g39)) : EnvOK (env_convert_To g12 g18 g21 g22 g23 g24 g25 g26 g27 g38 g39 s0 s1).toEnv := by
  intro f c h
  simp only [env_convert_To] at h
  split at h
  · rename_i e; subst e; cases h; exact h12
  split at h
  · rename_i e; subst e; cases h; exact h18
  split at h
  · rename_i e; subst e; cases h; exact h21
  split at h
  · rename_i e; subst e; cases h; exact h22
  split at h
  · rename_i e; subst e; cases h; exact h23
  split at h
  · rename_i e; subst e; cases h; exact h24
  split at h
  · rename_i e; subst e; cases h; exact h25
  split at h
  · rename_i e; subst e; cases h; exact h26
  split at h
  · rename_i e; subst e; cases h; exact h27
  split at h
  · rename_i e; subst e; cases h; exact h38
  split at h
  · rename_i e; subst e; cases h; exact h39
  simp at h
theorem convert_To.segs_ok : ∀ k, ∀ s ∈ (env_convert_To (convert_Can.f k) (values_Check.f k) (convert_refuse.f k) (convert_give.f k) (convert_ofBool.f k) (convert_ofInt.f k) (convert_ofReal.f k) (convert_ofBytes.f k) (convert_ofText.f k) (convert_refuse_1.f k) (convert_give_1.f k) (convert_To.s0 k) (convert_To.s1 k)).segs, SegOK (env_convert_To (convert_Can.f k) (values_Check.f k) (convert_refuse.f k) (convert_give.f k) (convert_ofBool.f k) (convert_ofInt.f k) (convert_ofReal.f k) (convert_ofBytes.f k) (convert_ofText.f k) (convert_refuse_1.f k) (convert_give_1.f k) (convert_To.s0 k) (convert_To.s1 k)) Go.Proofs.Try.f9 s
  | 0 => by
    intro s hs
    simp only [env_convert_To, List.mem_cons, List.not_mem_nil, or_false] at hs
    rcases hs with rfl | rfl
    · intro tvs blks res h; exfalso; simp only [seg_convert_To_0] at h; split at h <;> simp [convert_To.s0] at h
    · intro tvs blks res h; exfalso; simp only [seg_convert_To_1] at h; split at h <;> simp [convert_To.s1] at h
  | k + 1 => by
    have ih := convert_To.segs_ok k
    intro s hs
    simp only [env_convert_To, List.mem_cons, List.not_mem_nil, or_false] at hs
    rcases hs with rfl | rfl
    · refine seg_of_ev (E := env_convert_To (convert_Can.f k) (values_Check.f k) (convert_refuse.f k) (convert_give.f k) (convert_ofBool.f k) (convert_ofInt.f k) (convert_ofReal.f k) (convert_ofBytes.f k) (convert_ofText.f k) (convert_refuse_1.f k) (convert_give_1.f k) (convert_To.s0 k) (convert_To.s1 k)) (convert_To.envok _ _ _ _ _ _ _ _ _ _ _ _ _  (convert_Can.ok k) (values_Check.ok k) (convert_refuse.ok k) (convert_give.ok k) (convert_ofBool.ok k) (convert_ofInt.ok k) (convert_ofReal.ok k) (convert_ofBytes.ok k) (convert_ofText.ok k) (convert_refuse_1.ok k) (convert_give_1.ok k)) ⟨(convert_To.is (convert_Can.f k) (values_Check.f k) (convert_refuse.f k) (convert_give.f k) (convert_ofBool.f k) (convert_ofInt.f k) (convert_ofReal.f k) (convert_ofBytes.f k) (convert_ofText.f k) (convert_refuse_1.f k) (convert_give_1.f k) (convert_To.s0 k) (convert_To.s1 k)).rvs⟩ ih ?_
      intro tvs blks res h
      simp only [seg_convert_To_0] at h
      split at h
      · refine (convert_To.s0_ev (convert_Can.f k) (values_Check.f k) (convert_refuse.f k) (convert_give.f k) (convert_ofBool.f k) (convert_ofInt.f k) (convert_ofReal.f k) (convert_ofBytes.f k) (convert_ofText.f k) (convert_refuse_1.f k) (convert_give_1.f k) (convert_To.s0 k) (convert_To.s1 k) _ _ _ _ _ _ _ _ _ _ _ ).trans ?_
        rw [convert_To.s0c_bind]
        exact h
      · simp at h
    · refine seg_of_ev (E := env_convert_To (convert_Can.f k) (values_Check.f k) (convert_refuse.f k) (convert_give.f k) (convert_ofBool.f k) (convert_ofInt.f k) (convert_ofReal.f k) (convert_ofBytes.f k) (convert_ofText.f k) (convert_refuse_1.f k) (convert_give_1.f k) (convert_To.s0 k) (convert_To.s1 k)) (convert_To.envok _ _ _ _ _ _ _ _ _ _ _ _ _  (convert_Can.ok k) (values_Check.ok k) (convert_refuse.ok k) (convert_give.ok k) (convert_ofBool.ok k) (convert_ofInt.ok k) (convert_ofReal.ok k) (convert_ofBytes.ok k) (convert_ofText.ok k) (convert_refuse_1.ok k) (convert_give_1.ok k)) ⟨(convert_To.is (convert_Can.f k) (values_Check.f k) (convert_refuse.f k) (convert_give.f k) (convert_ofBool.f k) (convert_ofInt.f k) (convert_ofReal.f k) (convert_ofBytes.f k) (convert_ofText.f k) (convert_refuse_1.f k) (convert_give_1.f k) (convert_To.s0 k) (convert_To.s1 k)).rvs⟩ ih ?_
      intro tvs blks res h
      simp only [seg_convert_To_1] at h
      split at h
      · refine (convert_To.s1_ev (convert_Can.f k) (values_Check.f k) (convert_refuse.f k) (convert_give.f k) (convert_ofBool.f k) (convert_ofInt.f k) (convert_ofReal.f k) (convert_ofBytes.f k) (convert_ofText.f k) (convert_refuse_1.f k) (convert_give_1.f k) (convert_To.s0 k) (convert_To.s1 k) _ _ _ _ _ _ _ _ _ _ _ ).trans ?_
        rw [convert_To.s1c_bind]
        exact h
      · simp at h
theorem convert_To.ok (k : Nat) : CtOK Go.Proofs.Try.prog 9 (ct_convert_To (convert_To.f k)) := by
  refine ct_of_ev (E := env_convert_To (convert_Can.f k) (values_Check.f k) (convert_refuse.f k) (convert_give.f k) (convert_ofBool.f k) (convert_ofInt.f k) (convert_ofReal.f k) (convert_ofBytes.f k) (convert_ofText.f k) (convert_refuse_1.f k) (convert_give_1.f k) (convert_To.s0 k) (convert_To.s1 k)) (convert_To.is _ _ _ _ _ _ _ _ _ _ _ _ _ ) (convert_To.envok _ _ _ _ _ _ _ _ _ _ _ _ _  (convert_Can.ok k) (values_Check.ok k) (convert_refuse.ok k) (convert_give.ok k) (convert_ofBool.ok k) (convert_ofInt.ok k) (convert_ofReal.ok k) (convert_ofBytes.ok k) (convert_ofText.ok k) (convert_refuse_1.ok k) (convert_give_1.ok k)) (convert_To.segs_ok k) rfl ?_
  intro tvs blks res h
  simp only [ct_convert_To] at h
  split at h
  · refine (convert_To.ev (convert_Can.f k) (values_Check.f k) (convert_refuse.f k) (convert_give.f k) (convert_ofBool.f k) (convert_ofInt.f k) (convert_ofReal.f k) (convert_ofBytes.f k) (convert_ofText.f k) (convert_refuse_1.f k) (convert_give_1.f k) (convert_To.s0 k) (convert_To.s1 k) _ _ _ _ _ ).trans ?_
    rw [convert_To.c_bind]
    exact h
  · simp at h

/-! ### transomlaw07_text: function 20 -/
def ct_transomlaw07_text (g : ByteArray → Option (Int × Int × Int × ByteArray)) : Ct where
  nin := 0
  mv := []
  F := fun tvs blks {β} K => match tvs, blks with
    | [.v (.one (.d .str a0))], [] => (g a0).bind fun r => K ⟨.v (.agg [(.d (.int .i64) r.1), (.d (.int .i64) r.2.1), (.d (.int .u64) r.2.2.1), (.d .str r.2.2.2)]), []⟩
    | _, _ => none
  legit := fun tvs blks K r h => by
    split at h
    · obtain ⟨x, hx, hk⟩ := Option.bind_eq_some_iff.1 h
      refine ⟨_, ?_, hk⟩
      simp only [hx, Option.bind_some]
    · simp at h
noncomputable def env_transomlaw07_text   : FEnv := { P := Go.Proofs.Try.prog, ct := fun m => none, N := 5, body := Go.Proofs.Try.f20.body.getD .skip, rvs := [.cell 2 24], rts := [24], nin := 0, rmv := [], segs := [] }
def transomlaw07_text.c {β : Type}   (a0 : ByteArray) (ret : (Int × Int × Int × ByteArray) → Option β) : Option β := (ret ((5 : Int), (0 : Int), (0 : Int), a0))
theorem transomlaw07_text.c_bind {β : Type}   (a0 : ByteArray) (ret : (Int × Int × Int × ByteArray) → Option β) : transomlaw07_text.c   a0 ret = (transomlaw07_text.c   a0 some).bind ret := by
  simp only [transomlaw07_text.c, bif_bind, sum_bind, Option.bind_assoc, Option.bind_some, Option.bind_none, Option.bind_fun_some]
theorem transomlaw07_text.ev   (a0 : ByteArray) : evAt (env_transomlaw07_text  ) [] [0] [.v (.one (.d .str a0))] [] some = transomlaw07_text.c   a0 (fun r => some ⟨.v (.agg [(.d (.int .i64) r.1), (.d (.int .i64) r.2.1), (.d (.int .u64) r.2.2.1), (.d .str r.2.2.2)]), []⟩) := by
  kernel_rfl
def transomlaw07_text.f (k : Nat) (a0 : ByteArray) : Option (Int × Int × Int × ByteArray) := transomlaw07_text.c   a0 some
theorem transomlaw07_text.is   : FnIs (env_transomlaw07_text  ) 20 Go.Proofs.Try.f20 := ⟨Go.Proofs.Try.func20, rfl, rfl, rfl, by decide⟩
theorem transomlaw07_text.envok    : EnvOK (env_transomlaw07_text  ).toEnv := by
  intro f c h
  simp only [env_transomlaw07_text] at h
  simp at h
theorem transomlaw07_text.ok (k : Nat) : CtOK Go.Proofs.Try.prog 20 (ct_transomlaw07_text (transomlaw07_text.f k)) := by
  refine ct_of_ev (E := env_transomlaw07_text  ) (transomlaw07_text.is ) (transomlaw07_text.envok  ) (fun s hs => by simp [env_transomlaw07_text] at hs) rfl ?_
  intro tvs blks res h
  simp only [ct_transomlaw07_text] at h
  split at h
  · refine (transomlaw07_text.ev   _ ).trans ?_
    rw [transomlaw07_text.c_bind]
    exact h
  · simp at h

/-! ### transomlaw07_awake: function 8 -/
def ct_transomlaw07_awake (g : Option Bool) : Ct where
  nin := 0
  mv := []
  F := fun tvs blks {β} K => match tvs, blks with
    | [], [] => (g ).bind fun r => K ⟨.v (.one (.d .bool r)), []⟩
    | _, _ => none
  legit := fun tvs blks K r h => by
    split at h
    · obtain ⟨x, hx, hk⟩ := Option.bind_eq_some_iff.1 h
      refine ⟨_, ?_, hk⟩
      simp only [hx, Option.bind_some]
    · simp at h
noncomputable def env_transomlaw07_awake (g9 : Int → Int → Int → ByteArray → Int → Option (Int × Int × Int × ByteArray × Int)) (g12 : Int → Int → Option Bool) (g14 : ByteArray → Option (Int × Int)) (g16 : Int → Option ByteArray) (g20 : ByteArray → Option (Int × Int × Int × ByteArray))  : FEnv := { P := Go.Proofs.Try.prog, ct := fun m => if m = 9 then some (ct_convert_To g9) else if m = 12 then some (ct_convert_Can g12) else if m = 14 then some (ct_convert_Number g14) else if m = 16 then some (ct_convert_Digits g16) else if m = 20 then some (ct_transomlaw07_text g20) else none, N := 89, body := Go.Proofs.Try.f8.body.getD .skip, rvs := [.tmp 0], rts := [4], nin := 0, rmv := [], segs := [] }
def transomlaw07_awake.c {β : Type} (g9 : Int → Int → Int → ByteArray → Int → Option (Int × Int × Int × ByteArray × Int)) (g12 : Int → Int → Option Bool) (g14 : ByteArray → Option (Int × Int)) (g16 : Int → Option ByteArray) (g20 : ByteArray → Option (Int × Int × Int × ByteArray))   (ret : Bool → Option β) : Option β := ((g20 (ByteArray.mk (List.toArray [(49 : UInt8), (50 : UInt8)]))).bind fun r0 => ((g9 r0.1 r0.2.1 r0.2.2.1 r0.2.2.2 (2 : Int)).bind fun r1 => ((g20 (ByteArray.mk (List.toArray [(48 : UInt8), (49 : UInt8), (50 : UInt8)]))).bind fun r2 => ((g9 r2.1 r2.2.1 r2.2.2.1 r2.2.2.2 (2 : Int)).bind fun r3 => ((g9 (3 : Int) (0 : Int) (4609434218613702656 : Int) (ByteArray.mk (List.toArray [])) (2 : Int)).bind fun r4 => ((g9 (1 : Int) (1 : Int) (0 : Int) (ByteArray.mk (List.toArray [])) (5 : Int)).bind fun r5 => ((g9 (3 : Int) (0 : Int) (0 : Int) (ByteArray.mk (List.toArray [])) (5 : Int)).bind fun r6 => ((g14 (ByteArray.mk (List.toArray [(45 : UInt8), (57 : UInt8), (50 : UInt8), (50 : UInt8), (51 : UInt8), (51 : UInt8), (55 : UInt8), (50 : UInt8), (48 : UInt8), (51 : UInt8), (54 : UInt8), (56 : UInt8), (53 : UInt8), (52 : UInt8), (55 : UInt8), (55 : UInt8), (53 : UInt8), (56 : UInt8), (48 : UInt8), (56 : UInt8)]))).bind fun r7 => (bif (r1.2.1 == (12 : Int)) then (bif (r1.2.2.2.2 == (0 : Int)) then (bif (r3.2.2.2.2 == (7 : Int)) then (bif (r4.2.2.2.2 == (6 : Int)) then (bif ((ByteArray.toList r5.2.2.2.1) == (ByteArray.toList (ByteArray.mk (List.toArray [(116 : UInt8), (114 : UInt8), (117 : UInt8), (101 : UInt8)])))) then (bif (r5.2.2.2.2 == (0 : Int)) then (bif (r6.2.2.2.2 == (5 : Int)) then (bif (r7.1 == (-9223372036854775808 : Int)) then (bif (r7.2 == (0 : Int)) then ((g16 (-7 : Int)).bind fun r8 => (bif ((ByteArray.toList r8) == (ByteArray.toList (ByteArray.mk (List.toArray [(45 : UInt8), (55 : UInt8)])))) then ((g12 (1 : Int) (2 : Int)).bind fun r9 => (bif r9 then ((g12 (3 : Int) (5 : Int)).bind fun r10 => (ret ((!r10)))) else (ret (false)))) else (ret (false)))) else (ret (false))) else (ret (false))) else (ret (false))) else (ret (false))) else (ret (false))) else (ret (false))) else (ret (false))) else (ret (false))) else (ret (false)))))))))))
theorem transomlaw07_awake.c_bind {β : Type} (g9 : Int → Int → Int → ByteArray → Int → Option (Int × Int × Int × ByteArray × Int)) (g12 : Int → Int → Option Bool) (g14 : ByteArray → Option (Int × Int)) (g16 : Int → Option ByteArray) (g20 : ByteArray → Option (Int × Int × Int × ByteArray))   (ret : Bool → Option β) : transomlaw07_awake.c g9 g12 g14 g16 g20   ret = (transomlaw07_awake.c g9 g12 g14 g16 g20   some).bind ret := by
  simp only [transomlaw07_awake.c, bif_bind, sum_bind, Option.bind_assoc, Option.bind_some, Option.bind_none, Option.bind_fun_some]
theorem transomlaw07_awake.ev (g9 : Int → Int → Int → ByteArray → Int → Option (Int × Int × Int × ByteArray × Int)) (g12 : Int → Int → Option Bool) (g14 : ByteArray → Option (Int × Int)) (g16 : Int → Option ByteArray) (g20 : ByteArray → Option (Int × Int × Int × ByteArray))   : evAt (env_transomlaw07_awake g9 g12 g14 g16 g20 ) [] [] [] [] some = transomlaw07_awake.c g9 g12 g14 g16 g20   (fun r => some ⟨.v (.one (.d .bool r)), []⟩) := by
  kernel_rfl
def transomlaw07_awake.f (k : Nat)  : Option Bool := transomlaw07_awake.c (convert_To.f k) (convert_Can.f k) (convert_Number.f k) (convert_Digits.f k) (transomlaw07_text.f k)   some
theorem transomlaw07_awake.is (g9 : Int → Int → Int → ByteArray → Int → Option (Int × Int × Int × ByteArray × Int)) (g12 : Int → Int → Option Bool) (g14 : ByteArray → Option (Int × Int)) (g16 : Int → Option ByteArray) (g20 : ByteArray → Option (Int × Int × Int × ByteArray))  : FnIs (env_transomlaw07_awake g9 g12 g14 g16 g20 ) 8 Go.Proofs.Try.f8 := ⟨Go.Proofs.Try.func8, rfl, rfl, rfl, by decide⟩
theorem transomlaw07_awake.envok (g9 : Int → Int → Int → ByteArray → Int → Option (Int × Int × Int × ByteArray × Int)) (g12 : Int → Int → Option Bool) (g14 : ByteArray → Option (Int × Int)) (g16 : Int → Option ByteArray) (g20 : ByteArray → Option (Int × Int × Int × ByteArray))  (h9 : CtOK Go.Proofs.Try.prog 9 (ct_convert_To g9)) (h12 : CtOK Go.Proofs.Try.prog 12 (ct_convert_Can g12)) (h14 : CtOK Go.Proofs.Try.prog 14 (ct_convert_Number g14)) (h16 : CtOK Go.Proofs.Try.prog 16 (ct_convert_Digits g16)) (h20 : CtOK Go.Proofs.Try.prog 20 (ct_transomlaw07_text g20)) : EnvOK (env_transomlaw07_awake g9 g12 g14 g16 g20 ).toEnv := by
  intro f c h
  simp only [env_transomlaw07_awake] at h
  split at h
  · rename_i e; subst e; cases h; exact h9
  split at h
  · rename_i e; subst e; cases h; exact h12
  split at h
  · rename_i e; subst e; cases h; exact h14
  split at h
  · rename_i e; subst e; cases h; exact h16
  split at h
  · rename_i e; subst e; cases h; exact h20
  simp at h
theorem transomlaw07_awake.ok (k : Nat) : CtOK Go.Proofs.Try.prog 8 (ct_transomlaw07_awake (transomlaw07_awake.f k)) := by
  refine ct_of_ev (E := env_transomlaw07_awake (convert_To.f k) (convert_Can.f k) (convert_Number.f k) (convert_Digits.f k) (transomlaw07_text.f k) ) (transomlaw07_awake.is _ _ _ _ _ ) (transomlaw07_awake.envok _ _ _ _ _  (convert_To.ok k) (convert_Can.ok k) (convert_Number.ok k) (convert_Digits.ok k) (transomlaw07_text.ok k)) (fun s hs => by simp [env_transomlaw07_awake] at hs) rfl ?_
  intro tvs blks res h
  simp only [ct_transomlaw07_awake] at h
  split at h
  · refine (transomlaw07_awake.ev (convert_To.f k) (convert_Can.f k) (convert_Number.f k) (convert_Digits.f k) (transomlaw07_text.f k)  ).trans ?_
    rw [transomlaw07_awake.c_bind]
    exact h
  · simp at h
end Go.Proofs.Ytndkobhclggeiaa.Aev
