/- By a program of this session (AEV): functions of the program as plain functions, and that the machine does what they say. -/
import Derived.Test.YtchlbajnmhffpaaAevW
import Derived.Test.YtchlbajnmhffpaaProg
import Derived.Laws.Externs
import Derived.Lib.Bytealg
import Derived.Test.YtchlbajnmhffpaaF4
import Derived.Test.YtchlbajnmhffpaaF6
import Derived.Test.YtchlbajnmhffpaaF13
import Derived.Test.YtchlbajnmhffpaaF16
import Derived.Test.YtchlbajnmhffpaaF17
namespace Go.Proofs.Ytchlbajnmhffpaa.Aev
set_option linter.unusedVariables false
set_option linter.unusedSimpArgs false
set_option maxRecDepth 100000
set_option maxHeartbeats 4000000
open Go
/-! ### transomlaw36_WordsValues: function 5 -/
def ct_transomlaw36_WordsValues (g : Int → Int → Int → ByteArray → ByteArray → Option Bool) : Ct where
  nin := 0
  mv := []
  F := fun tvs blks {β} K => match tvs, blks with
    | [.v (.agg [(.d (.int .i64) a0), (.d (.int .i64) a1), (.d (.int .u64) a2), (.d .str a3)]), .v (.one (.d .str a4))], [] => (g a0 a1 a2 a3 a4).bind fun r => K ⟨.v (.one (.d .bool r)), []⟩
    | _, _ => none
  legit := fun tvs blks K r h => by
    split at h
    · obtain ⟨x, hx, hk⟩ := Option.bind_eq_some_iff.1 h
      refine ⟨_, ?_, hk⟩
      simp only [hx, Option.bind_some]
    · simp at h
def seg_transomlaw36_WordsValues_0 (g : ByteArray → Bool → Int → Int → Int → ByteArray → Option Bool) : Seg where
  path := [1, 0, 1]
  prep := []
  keep := [1, 2, 20]
  F := fun tvs blks {β} K => match tvs, blks with
    | [.v (.one (.d .str x0)), .v (.one (.ptr 0 0)), .v (.one (.d .bool x1))], [some (.box [(.d (.int .i64) x2), (.d (.int .i64) x3), (.d (.int .u64) x4), (.d .str x5)])] => (g x0 x1 x2 x3 x4 x5).bind fun r => K ⟨.v (.one (.d .bool r)), []⟩
    | _, _ => none
  legit := fun tvs blks K r h => by
    split at h
    · obtain ⟨x, hx, hk⟩ := Option.bind_eq_some_iff.1 h
      refine ⟨_, ?_, hk⟩
      simp only [hx, Option.bind_some]
    · simp at h
def seg_transomlaw36_WordsValues_1 (g : ByteArray → Int → Int → Int → ByteArray → Option Bool) : Seg where
  path := [1, 1]
  prep := []
  keep := [1, 2]
  F := fun tvs blks {β} K => match tvs, blks with
    | [.v (.one (.d .str x0)), .v (.one (.ptr 0 0))], [some (.box [(.d (.int .i64) x1), (.d (.int .i64) x2), (.d (.int .u64) x3), (.d .str x4)])] => (g x0 x1 x2 x3 x4).bind fun r => K ⟨.v (.one (.d .bool r)), []⟩
    | _, _ => none
  legit := fun tvs blks K r h => by
    split at h
    · obtain ⟨x, hx, hk⟩ := Option.bind_eq_some_iff.1 h
      refine ⟨_, ?_, hk⟩
      simp only [hx, Option.bind_some]
    · simp at h
noncomputable def env_transomlaw36_WordsValues (g7 : Option Bool) (g15 : Int → Int → Int → ByteArray → Option Int) (g16 : Int → Int → Int → ByteArray → Option (ByteArray × Int)) (g17 : Int → Int → Int → ByteArray → Option (ByteArray × Int)) (g18 : ByteArray → Option (Int × Int × Int × ByteArray × Int)) (g19 : ByteArray → Option (Int × Int × Int × ByteArray × Int)) (g20 : Int → Int → Int → ByteArray → Int → Int → Int → ByteArray → Option Bool) (s0 : ByteArray → Bool → Int → Int → Int → ByteArray → Option Bool) (s1 : ByteArray → Int → Int → Int → ByteArray → Option Bool) : FEnv := { P := Go.Proofs.Try.prog, ct := fun m => if m = 7 then some (ct_transomlaw36_awake g7) else if m = 15 then some (ct_transomlaw04_Few g15) else if m = 16 then some (ct_words_Show g16) else if m = 17 then some (ct_transomref36_Show g17) else if m = 18 then some (ct_words_Value g18) else if m = 19 then some (ct_transomref36_Value g19) else if m = 20 then some (ct_transomref04_Same g20) else none, N := 63, body := Go.Proofs.Try.f5.body.getD .skip, rvs := [.tmp 4], rts := [4], nin := 0, rmv := [], segs := [seg_transomlaw36_WordsValues_0 s0, seg_transomlaw36_WordsValues_1 s1] }
def transomlaw36_WordsValues.c {β : Type} (g7 : Option Bool) (g15 : Int → Int → Int → ByteArray → Option Int) (g16 : Int → Int → Int → ByteArray → Option (ByteArray × Int)) (g17 : Int → Int → Int → ByteArray → Option (ByteArray × Int)) (g18 : ByteArray → Option (Int × Int × Int × ByteArray × Int)) (g19 : ByteArray → Option (Int × Int × Int × ByteArray × Int)) (g20 : Int → Int → Int → ByteArray → Int → Int → Int → ByteArray → Option Bool) (s0 : ByteArray → Bool → Int → Int → Int → ByteArray → Option Bool) (s1 : ByteArray → Int → Int → Int → ByteArray → Option Bool) (a0 : Int) (a1 : Int) (a2 : Int) (a3 : ByteArray) (a4 : ByteArray) (ret : Bool → Option β) : Option β := ((g15 a0 a1 a2 a3).bind fun r0 => (bif (r0 == (0 : Int)) then ((s0 a4 true a0 a1 a2 a3).bind ret) else ((s0 a4 (decide (((ByteArray.size a4) : Int) > (2000 : Int))) a0 a1 a2 a3).bind ret)))
def transomlaw36_WordsValues.s0c {β : Type} (g7 : Option Bool) (g15 : Int → Int → Int → ByteArray → Option Int) (g16 : Int → Int → Int → ByteArray → Option (ByteArray × Int)) (g17 : Int → Int → Int → ByteArray → Option (ByteArray × Int)) (g18 : ByteArray → Option (Int × Int × Int × ByteArray × Int)) (g19 : ByteArray → Option (Int × Int × Int × ByteArray × Int)) (g20 : Int → Int → Int → ByteArray → Int → Int → Int → ByteArray → Option Bool) (s0 : ByteArray → Bool → Int → Int → Int → ByteArray → Option Bool) (s1 : ByteArray → Int → Int → Int → ByteArray → Option Bool) (x0 : ByteArray) (x1 : Bool) (x2 : Int) (x3 : Int) (x4 : Int) (x5 : ByteArray) (ret : Bool → Option β) : Option β := (bif x1 then (g7.bind fun r0 => (ret (r0))) else ((s1 x0 x2 x3 x4 x5).bind ret))
def transomlaw36_WordsValues.s1c {β : Type} (g7 : Option Bool) (g15 : Int → Int → Int → ByteArray → Option Int) (g16 : Int → Int → Int → ByteArray → Option (ByteArray × Int)) (g17 : Int → Int → Int → ByteArray → Option (ByteArray × Int)) (g18 : ByteArray → Option (Int × Int × Int × ByteArray × Int)) (g19 : ByteArray → Option (Int × Int × Int × ByteArray × Int)) (g20 : Int → Int → Int → ByteArray → Int → Int → Int → ByteArray → Option Bool) (s0 : ByteArray → Bool → Int → Int → Int → ByteArray → Option Bool) (s1 : ByteArray → Int → Int → Int → ByteArray → Option Bool) (x0 : ByteArray) (x1 : Int) (x2 : Int) (x3 : Int) (x4 : ByteArray) (ret : Bool → Option β) : Option β := ((g16 x1 x2 x3 x4).bind fun r0 => ((g17 x1 x2 x3 x4).bind fun r1 => ((g18 x0).bind fun r2 => ((g19 x0).bind fun r3 => (bif ((ByteArray.toList r0.1) == (ByteArray.toList r1.1)) then (bif (r0.2 == r1.2) then ((g20 r2.1 r2.2.1 r2.2.2.1 r2.2.2.2.1 r3.1 r3.2.1 r3.2.2.1 r3.2.2.2.1).bind fun r4 => (bif r4 then (bif (r2.2.2.2.2 == r3.2.2.2.2) then (g7.bind fun r5 => (ret (r5))) else (ret (false))) else (ret (false)))) else (ret (false))) else (ret (false)))))))
theorem transomlaw36_WordsValues.c_bind {β : Type} (g7 : Option Bool) (g15 : Int → Int → Int → ByteArray → Option Int) (g16 : Int → Int → Int → ByteArray → Option (ByteArray × Int)) (g17 : Int → Int → Int → ByteArray → Option (ByteArray × Int)) (g18 : ByteArray → Option (Int × Int × Int × ByteArray × Int)) (g19 : ByteArray → Option (Int × Int × Int × ByteArray × Int)) (g20 : Int → Int → Int → ByteArray → Int → Int → Int → ByteArray → Option Bool) (s0 : ByteArray → Bool → Int → Int → Int → ByteArray → Option Bool) (s1 : ByteArray → Int → Int → Int → ByteArray → Option Bool) (a0 : Int) (a1 : Int) (a2 : Int) (a3 : ByteArray) (a4 : ByteArray) (ret : Bool → Option β) : transomlaw36_WordsValues.c g7 g15 g16 g17 g18 g19 g20 s0 s1 a0 a1 a2 a3 a4 ret = (transomlaw36_WordsValues.c g7 g15 g16 g17 g18 g19 g20 s0 s1 a0 a1 a2 a3 a4 some).bind ret := by
  simp only [transomlaw36_WordsValues.c, bif_bind, sum_bind, Option.bind_assoc, Option.bind_some, Option.bind_none, Option.bind_fun_some]
theorem transomlaw36_WordsValues.s0c_bind {β : Type} (g7 : Option Bool) (g15 : Int → Int → Int → ByteArray → Option Int) (g16 : Int → Int → Int → ByteArray → Option (ByteArray × Int)) (g17 : Int → Int → Int → ByteArray → Option (ByteArray × Int)) (g18 : ByteArray → Option (Int × Int × Int × ByteArray × Int)) (g19 : ByteArray → Option (Int × Int × Int × ByteArray × Int)) (g20 : Int → Int → Int → ByteArray → Int → Int → Int → ByteArray → Option Bool) (s0 : ByteArray → Bool → Int → Int → Int → ByteArray → Option Bool) (s1 : ByteArray → Int → Int → Int → ByteArray → Option Bool) (x0 : ByteArray) (x1 : Bool) (x2 : Int) (x3 : Int) (x4 : Int) (x5 : ByteArray) (ret : Bool → Option β) : transomlaw36_WordsValues.s0c g7 g15 g16 g17 g18 g19 g20 s0 s1 x0 x1 x2 x3 x4 x5 ret = (transomlaw36_WordsValues.s0c g7 g15 g16 g17 g18 g19 g20 s0 s1 x0 x1 x2 x3 x4 x5 some).bind ret := by
  simp only [transomlaw36_WordsValues.s0c, bif_bind, sum_bind, Option.bind_assoc, Option.bind_some, Option.bind_none, Option.bind_fun_some]
theorem transomlaw36_WordsValues.s1c_bind {β : Type} (g7 : Option Bool) (g15 : Int → Int → Int → ByteArray → Option Int) (g16 : Int → Int → Int → ByteArray → Option (ByteArray × Int)) (g17 : Int → Int → Int → ByteArray → Option (ByteArray × Int)) (g18 : ByteArray → Option (Int × Int × Int × ByteArray × Int)) (g19 : ByteArray → Option (Int × Int × Int × ByteArray × Int)) (g20 : Int → Int → Int → ByteArray → Int → Int → Int → ByteArray → Option Bool) (s0 : ByteArray → Bool → Int → Int → Int → ByteArray → Option Bool) (s1 : ByteArray → Int → Int → Int → ByteArray → Option Bool) (x0 : ByteArray) (x1 : Int) (x2 : Int) (x3 : Int) (x4 : ByteArray) (ret : Bool → Option β) : transomlaw36_WordsValues.s1c g7 g15 g16 g17 g18 g19 g20 s0 s1 x0 x1 x2 x3 x4 ret = (transomlaw36_WordsValues.s1c g7 g15 g16 g17 g18 g19 g20 s0 s1 x0 x1 x2 x3 x4 some).bind ret := by
  simp only [transomlaw36_WordsValues.s1c, bif_bind, sum_bind, Option.bind_assoc, Option.bind_some, Option.bind_none, Option.bind_fun_some]
theorem transomlaw36_WordsValues.ev (g7 : Option Bool) (g15 : Int → Int → Int → ByteArray → Option Int) (g16 : Int → Int → Int → ByteArray → Option (ByteArray × Int)) (g17 : Int → Int → Int → ByteArray → Option (ByteArray × Int)) (g18 : ByteArray → Option (Int × Int × Int × ByteArray × Int)) (g19 : ByteArray → Option (Int × Int × Int × ByteArray × Int)) (g20 : Int → Int → Int → ByteArray → Int → Int → Int → ByteArray → Option Bool) (s0 : ByteArray → Bool → Int → Int → Int → ByteArray → Option Bool) (s1 : ByteArray → Int → Int → Int → ByteArray → Option Bool) (a0 : Int) (a1 : Int) (a2 : Int) (a3 : ByteArray) (a4 : ByteArray) : evAt (env_transomlaw36_WordsValues g7 g15 g16 g17 g18 g19 g20 s0 s1) [] [0, 1] [.v (.agg [(.d (.int .i64) a0), (.d (.int .i64) a1), (.d (.int .u64) a2), (.d .str a3)]), .v (.one (.d .str a4))] [] some = transomlaw36_WordsValues.c g7 g15 g16 g17 g18 g19 g20 s0 s1 a0 a1 a2 a3 a4 (fun r => some ⟨.v (.one (.d .bool r)), []⟩) := by
  kernel_rfl
theorem transomlaw36_WordsValues.s0_ev (g7 : Option Bool) (g15 : Int → Int → Int → ByteArray → Option Int) (g16 : Int → Int → Int → ByteArray → Option (ByteArray × Int)) (g17 : Int → Int → Int → ByteArray → Option (ByteArray × Int)) (g18 : ByteArray → Option (Int × Int × Int × ByteArray × Int)) (g19 : ByteArray → Option (Int × Int × Int × ByteArray × Int)) (g20 : Int → Int → Int → ByteArray → Int → Int → Int → ByteArray → Option Bool) (s0 : ByteArray → Bool → Int → Int → Int → ByteArray → Option Bool) (s1 : ByteArray → Int → Int → Int → ByteArray → Option Bool) (x0 : ByteArray) (x1 : Bool) (x2 : Int) (x3 : Int) (x4 : Int) (x5 : ByteArray) : evAt (env_transomlaw36_WordsValues g7 g15 g16 g17 g18 g19 g20 s0 s1) [1, 0, 1] [1, 2, 20] [.v (.one (.d .str x0)), .v (.one (.ptr 0 0)), .v (.one (.d .bool x1))] [some (.box [(.d (.int .i64) x2), (.d (.int .i64) x3), (.d (.int .u64) x4), (.d .str x5)])] some = transomlaw36_WordsValues.s0c g7 g15 g16 g17 g18 g19 g20 s0 s1 x0 x1 x2 x3 x4 x5 (fun r => some ⟨.v (.one (.d .bool r)), []⟩) := by
  kernel_rfl
theorem transomlaw36_WordsValues.s1_ev (g7 : Option Bool) (g15 : Int → Int → Int → ByteArray → Option Int) (g16 : Int → Int → Int → ByteArray → Option (ByteArray × Int)) (g17 : Int → Int → Int → ByteArray → Option (ByteArray × Int)) (g18 : ByteArray → Option (Int × Int × Int × ByteArray × Int)) (g19 : ByteArray → Option (Int × Int × Int × ByteArray × Int)) (g20 : Int → Int → Int → ByteArray → Int → Int → Int → ByteArray → Option Bool) (s0 : ByteArray → Bool → Int → Int → Int → ByteArray → Option Bool) (s1 : ByteArray → Int → Int → Int → ByteArray → Option Bool) (x0 : ByteArray) (x1 : Int) (x2 : Int) (x3 : Int) (x4 : ByteArray) : evAt (env_transomlaw36_WordsValues g7 g15 g16 g17 g18 g19 g20 s0 s1) [1, 1] [1, 2] [.v (.one (.d .str x0)), .v (.one (.ptr 0 0))] [some (.box [(.d (.int .i64) x1), (.d (.int .i64) x2), (.d (.int .u64) x3), (.d .str x4)])] some = transomlaw36_WordsValues.s1c g7 g15 g16 g17 g18 g19 g20 s0 s1 x0 x1 x2 x3 x4 (fun r => some ⟨.v (.one (.d .bool r)), []⟩) := by
  kernel_rfl
mutual
def transomlaw36_WordsValues.s0 : Nat → ByteArray → Bool → Int → Int → Int → ByteArray → Option Bool
  | 0, _, _, _, _, _, _ => none
  | k + 1, x0, x1, x2, x3, x4, x5 => transomlaw36_WordsValues.s0c (transomlaw36_awake.f k) (transomlaw04_Few.f k) (words_Show.f k) (transomref36_Show.f k) (words_Value.f k) (transomref36_Value.f k) (transomref04_Same.f k) (transomlaw36_WordsValues.s0 k) (transomlaw36_WordsValues.s1 k) x0 x1 x2 x3 x4 x5 some
def transomlaw36_WordsValues.s1 : Nat → ByteArray → Int → Int → Int → ByteArray → Option Bool
  | 0, _, _, _, _, _ => none
  | k + 1, x0, x1, x2, x3, x4 => transomlaw36_WordsValues.s1c (transomlaw36_awake.f k) (transomlaw04_Few.f k) (words_Show.f k) (transomref36_Show.f k) (words_Value.f k) (transomref36_Value.f k) (transomref04_Same.f k) (transomlaw36_WordsValues.s0 k) (transomlaw36_WordsValues.s1 k) x0 x1 x2 x3 x4 some
end
def transomlaw36_WordsValues.f (k : Nat) (a0 : Int) (a1 : Int) (a2 : Int) (a3 : ByteArray) (a4 : ByteArray) : Option Bool := transomlaw36_WordsValues.c (transomlaw36_awake.f k) (transomlaw04_Few.f k) (words_Show.f k) (transomref36_Show.f k) (words_Value.f k) (transomref36_Value.f k) (transomref04_Same.f k) (transomlaw36_WordsValues.s0 k) (transomlaw36_WordsValues.s1 k) a0 a1 a2 a3 a4 some
theorem transomlaw36_WordsValues.is (g7 : Option Bool) (g15 : Int → Int → Int → ByteArray → Option Int) (g16 : Int → Int → Int → ByteArray → Option (ByteArray × Int)) (g17 : Int → Int → Int → ByteArray → Option (ByteArray × Int)) (g18 : ByteArray → Option (Int × Int × Int × ByteArray × Int)) (g19 : ByteArray → Option (Int × Int × Int × ByteArray × Int)) (g20 : Int → Int → Int → ByteArray → Int → Int → Int → ByteArray → Option Bool) (s0 : ByteArray → Bool → Int → Int → Int → ByteArray → Option Bool) (s1 : ByteArray → Int → Int → Int → ByteArray → Option Bool) : FnIs (env_transomlaw36_WordsValues g7 g15 g16 g17 g18 g19 g20 s0 s1) 5 Go.Proofs.Try.f5 := ⟨Go.Proofs.Try.func5, rfl, rfl, rfl, by decide⟩
theorem transomlaw36_WordsValues.envok (g7 : Option Bool) (g15 : Int → Int → Int → ByteArray → Option Int) (g16 : Int → Int → Int → ByteArray → Option (ByteArray × Int)) (g17 : Int → Int → Int → ByteArray → Option (ByteArray × Int)) (g18 : ByteArray → Option (Int × Int × Int × ByteArray × Int)) (g19 : ByteArray → Option (Int × Int × Int × ByteArray × Int)) (g20 : Int → Int → Int → ByteArray → Int → Int → Int → ByteArray → Option Bool) (s0 : ByteArray → Bool → Int → Int → Int → ByteArray → Option Bool) (s1 : ByteArray → Int → Int → Int → ByteArray → Option Bool) (h7 : CtOK Go.Proofs.Try.prog 7 (ct_transomlaw36_awake g7)) (h15 : CtOK Go.Proofs.Try.prog 15 (ct_transomlaw04_Few g15)) (h16 : CtOK Go.Proofs.Try.prog 16 (ct_words_Show g16)) (h17 : CtOK Go.Proofs.Try.prog 17 (ct_transomref36_Show g17)) (h18 : CtOK Go.Proofs.Try.prog 18 (ct_words_Value g18)) (h19 : CtOK Go.Proofs.Try.prog 19 (ct_transomref36_Value g19)) (h20 : CtOK Go.Proofs.Try.prog 20 (ct_transomref04_Same g20)) : EnvOK (env_transomlaw36_WordsValues g7 g15 g16 g17 g18 g19 g20 s0 s1).toEnv := by
  intro f c h
  simp only [env_transomlaw36_WordsValues] at h
  split at h
  · rename_i e; subst e; cases h; exact h7
  split at h
  · rename_i e; subst e; cases h; exact h15
  split at h
  · rename_i e; subst e; cases h; exact h16
  split at h
  · rename_i e; subst e; cases h; exact h17
  split at h
  · rename_i e; subst e; cases h; exact h18
  split at h
  · rename_i e; subst e; cases h; exact h19
  split at h
  · rename_i e; subst e; cases h; exact h20
  simp at h
theorem transomlaw36_WordsValues.segs_ok : ∀ k, ∀ s ∈ (env_transomlaw36_WordsValues (transomlaw36_awake.f k) (transomlaw04_Few.f k) (words_Show.f k) (transomref36_Show.f k) (words_Value.f k) (transomref36_Value.f k) (transomref04_Same.f k) (transomlaw36_WordsValues.s0 k) (transomlaw36_WordsValues.s1 k)).segs, SegOK (env_transomlaw36_WordsValues (transomlaw36_awake.f k) (transomlaw04_Few.f k) (words_Show.f k) (transomref36_Show.f k) (words_Value.f k) (transomref36_Value.f k) (transomref04_Same.f k) (transomlaw36_WordsValues.s0 k) (transomlaw36_WordsValues.s1 k)) Go.Proofs.Try.f5 s
  | 0 => by
    intro s hs
    simp only [env_transomlaw36_WordsValues, List.mem_cons, List.not_mem_nil, or_false] at hs
    rcases hs with rfl | rfl
    · intro tvs blks res h; exfalso; simp only [seg_transomlaw36_WordsValues_0] at h; split at h <;> simp [transomlaw36_WordsValues.s0] at h
    · intro tvs blks res h; exfalso; simp only [seg_transomlaw36_WordsValues_1] at h; split at h <;> simp [transomlaw36_WordsValues.s1] at h
  | k + 1 => by
    have ih := transomlaw36_WordsValues.segs_ok k
    intro s hs
    simp only [env_transomlaw36_WordsValues, List.mem_cons, List.not_mem_nil, or_false] at hs
    rcases hs with rfl | rfl
    · refine seg_of_ev (E := env_transomlaw36_WordsValues (transomlaw36_awake.f k) (transomlaw04_Few.f k) (words_Show.f k) (transomref36_Show.f k) (words_Value.f k) (transomref36_Value.f k) (transomref04_Same.f k) (transomlaw36_WordsValues.s0 k) (transomlaw36_WordsValues.s1 k)) (transomlaw36_WordsValues.envok _ _ _ _ _ _ _ _ _  (transomlaw36_awake.ok k) (transomlaw04_Few.ok k) (words_Show.ok k) (transomref36_Show.ok k) (words_Value.ok k) (transomref36_Value.ok k) (transomref04_Same.ok k)) ⟨(transomlaw36_WordsValues.is (transomlaw36_awake.f k) (transomlaw04_Few.f k) (words_Show.f k) (transomref36_Show.f k) (words_Value.f k) (transomref36_Value.f k) (transomref04_Same.f k) (transomlaw36_WordsValues.s0 k) (transomlaw36_WordsValues.s1 k)).rvs⟩ ih ?_
      intro tvs blks res h
      simp only [seg_transomlaw36_WordsValues_0] at h
      split at h
      · refine (transomlaw36_WordsValues.s0_ev (transomlaw36_awake.f k) (transomlaw04_Few.f k) (words_Show.f k) (transomref36_Show.f k) (words_Value.f k) (transomref36_Value.f k) (transomref04_Same.f k) (transomlaw36_WordsValues.s0 k) (transomlaw36_WordsValues.s1 k) _ _ _ _ _ _ ).trans ?_
        rw [transomlaw36_WordsValues.s0c_bind]
        exact h
      · simp at h
    · refine seg_of_ev (E := env_transomlaw36_WordsValues (transomlaw36_awake.f k) (transomlaw04_Few.f k) (words_Show.f k) (transomref36_Show.f k) (words_Value.f k) (transomref36_Value.f k) (transomref04_Same.f k) (transomlaw36_WordsValues.s0 k) (transomlaw36_WordsValues.s1 k)) (transomlaw36_WordsValues.envok _ _ _ _ _ _ _ _ _  (transomlaw36_awake.ok k) (transomlaw04_Few.ok k) (words_Show.ok k) (transomref36_Show.ok k) (words_Value.ok k) (transomref36_Value.ok k) (transomref04_Same.ok k)) ⟨(transomlaw36_WordsValues.is (transomlaw36_awake.f k) (transomlaw04_Few.f k) (words_Show.f k) (transomref36_Show.f k) (words_Value.f k) (transomref36_Value.f k) (transomref04_Same.f k) (transomlaw36_WordsValues.s0 k) (transomlaw36_WordsValues.s1 k)).rvs⟩ ih ?_
      intro tvs blks res h
      simp only [seg_transomlaw36_WordsValues_1] at h
      split at h
      · refine (transomlaw36_WordsValues.s1_ev (transomlaw36_awake.f k) (transomlaw04_Few.f k) (words_Show.f k) (transomref36_Show.f k) (words_Value.f k) (transomref36_Value.f k) (transomref04_Same.f k) (transomlaw36_WordsValues.s0 k) (transomlaw36_WordsValues.s1 k) _ _ _ _ _ ).trans ?_
        rw [transomlaw36_WordsValues.s1c_bind]
        exact h
      · simp at h
theorem transomlaw36_WordsValues.ok (k : Nat) : CtOK Go.Proofs.Try.prog 5 (ct_transomlaw36_WordsValues (transomlaw36_WordsValues.f k)) := by
  refine ct_of_ev (E := env_transomlaw36_WordsValues (transomlaw36_awake.f k) (transomlaw04_Few.f k) (words_Show.f k) (transomref36_Show.f k) (words_Value.f k) (transomref36_Value.f k) (transomref04_Same.f k) (transomlaw36_WordsValues.s0 k) (transomlaw36_WordsValues.s1 k)) (transomlaw36_WordsValues.is _ _ _ _ _ _ _ _ _ ) (transomlaw36_WordsValues.envok _ _ _ _ _ _ _ _ _  (transomlaw36_awake.ok k) (transomlaw04_Few.ok k) (words_Show.ok k) (transomref36_Show.ok k) (words_Value.ok k) (transomref36_Value.ok k) (transomref04_Same.ok k)) (transomlaw36_WordsValues.segs_ok k) rfl ?_
  intro tvs blks res h
  simp only [ct_transomlaw36_WordsValues] at h
  split at h
  · refine (transomlaw36_WordsValues.ev (transomlaw36_awake.f k) (transomlaw04_Few.f k) (words_Show.f k) (transomref36_Show.f k) (words_Value.f k) (transomref36_Value.f k) (transomref04_Same.f k) (transomlaw36_WordsValues.s0 k) (transomlaw36_WordsValues.s1 k) _ _ _ _ _ ).trans ?_
    rw [transomlaw36_WordsValues.c_bind]
    exact h
  · simp at h
end Go.Proofs.Ytchlbajnmhffpaa.Aev
