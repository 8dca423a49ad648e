/- By a program of this session (AEV): functions of the program as plain functions, and that the machine does what they say. -/
import Derived.Test.YtchlbajnmhffpaaAevW
import Derived.Test.YtchlbajnmhffpaaProg
import Derived.Laws.Externs
import Derived.Lib.Bytealg
import Derived.Test.YtchlbajnmhffpaaF1
import Derived.Test.YtchlbajnmhffpaaF2
import Derived.Test.YtchlbajnmhffpaaF6
import Derived.Test.YtchlbajnmhffpaaF10
import Derived.Test.YtchlbajnmhffpaaF11
namespace Go.Proofs.Ytchlbajnmhffpaa.Aev
set_option linter.unusedVariables false
set_option linter.unusedSimpArgs false
set_option maxRecDepth 100000
set_option maxHeartbeats 4000000
open Go
/-! ### transomlaw36_WordsQuotes: function 4 -/
def ct_transomlaw36_WordsQuotes (g : ByteArray → Option Bool) : Ct where
  nin := 0
  mv := []
  F := fun tvs blks {β} K => match tvs, blks with
    | [.v (.one (.d .str a0))], [] => (g a0).bind fun r => K ⟨.v (.one (.d .bool r)), []⟩
    | _, _ => none
  legit := fun tvs blks K r h => by
    split at h
    · obtain ⟨x, hx, hk⟩ := Option.bind_eq_some_iff.1 h
      refine ⟨_, ?_, hk⟩
      simp only [hx, Option.bind_some]
    · simp at h
noncomputable def env_transomlaw36_WordsQuotes (g7 : Option Bool) (g11 : ByteArray → Option ByteArray) (g12 : ByteArray → Option (ByteArray × Int)) (g13 : ByteArray → Option (ByteArray × Int)) (g14 : ByteArray → Option ByteArray)  : FEnv := { P := Go.Proofs.Try.prog, ct := fun m => if m = 7 then some (ct_transomlaw36_awake g7) else if m = 11 then some (ct_words_Quote g11) else if m = 12 then some (ct_words_Unquote g12) else if m = 13 then some (ct_transomref36_Unquote g13) else if m = 14 then some (ct_transomref36_Quote g14) else none, N := 57, body := Go.Proofs.Try.f4.body.getD .skip, rvs := [.tmp 2], rts := [4], nin := 0, rmv := [], segs := [] }
def transomlaw36_WordsQuotes.c {β : Type} (g7 : Option Bool) (g11 : ByteArray → Option ByteArray) (g12 : ByteArray → Option (ByteArray × Int)) (g13 : ByteArray → Option (ByteArray × Int)) (g14 : ByteArray → Option ByteArray)  (a0 : ByteArray) (ret : Bool → Option β) : Option β := (bif (decide (((ByteArray.size a0) : Int) > (2000 : Int))) then (g7.bind fun r0 => (ret (r0))) else ((g11 a0).bind fun r1 => ((g12 a0).bind fun r2 => ((g13 a0).bind fun r3 => ((g12 r1).bind fun r4 => ((g14 a0).bind fun r5 => (bif ((ByteArray.toList r1) == (ByteArray.toList r5)) then (bif ((ByteArray.toList r2.1) == (ByteArray.toList r3.1)) then (bif (r2.2 == r3.2) then (bif ((ByteArray.toList r4.1) == (ByteArray.toList a0)) then (bif (r4.2 == (0 : Int)) then (g7.bind fun r6 => (ret (r6))) else (ret (false))) else (ret (false))) else (ret (false))) else (ret (false))) else (ret (false)))))))))
theorem transomlaw36_WordsQuotes.c_bind {β : Type} (g7 : Option Bool) (g11 : ByteArray → Option ByteArray) (g12 : ByteArray → Option (ByteArray × Int)) (g13 : ByteArray → Option (ByteArray × Int)) (g14 : ByteArray → Option ByteArray)  (a0 : ByteArray) (ret : Bool → Option β) : transomlaw36_WordsQuotes.c g7 g11 g12 g13 g14  a0 ret = (transomlaw36_WordsQuotes.c g7 g11 g12 g13 g14  a0 some).bind ret := by
  simp only [transomlaw36_WordsQuotes.c, bif_bind, sum_bind, Option.bind_assoc, Option.bind_some, Option.bind_none, Option.bind_fun_some]
theorem transomlaw36_WordsQuotes.ev (g7 : Option Bool) (g11 : ByteArray → Option ByteArray) (g12 : ByteArray → Option (ByteArray × Int)) (g13 : ByteArray → Option (ByteArray × Int)) (g14 : ByteArray → Option ByteArray)  (a0 : ByteArray) : evAt (env_transomlaw36_WordsQuotes g7 g11 g12 g13 g14 ) [] [0] [.v (.one (.d .str a0))] [] some = transomlaw36_WordsQuotes.c g7 g11 g12 g13 g14  a0 (fun r => some ⟨.v (.one (.d .bool r)), []⟩) := by
  kernel_rfl
def transomlaw36_WordsQuotes.f (k : Nat) (a0 : ByteArray) : Option Bool := transomlaw36_WordsQuotes.c (transomlaw36_awake.f k) (words_Quote.f k) (words_Unquote.f k) (transomref36_Unquote.f k) (transomref36_Quote.f k)  a0 some
theorem transomlaw36_WordsQuotes.is (g7 : Option Bool) (g11 : ByteArray → Option ByteArray) (g12 : ByteArray → Option (ByteArray × Int)) (g13 : ByteArray → Option (ByteArray × Int)) (g14 : ByteArray → Option ByteArray)  : FnIs (env_transomlaw36_WordsQuotes g7 g11 g12 g13 g14 ) 4 Go.Proofs.Try.f4 := ⟨Go.Proofs.Try.func4, rfl, rfl, rfl, by decide⟩
theorem transomlaw36_WordsQuotes.envok (g7 : Option Bool) (g11 : ByteArray → Option ByteArray) (g12 : ByteArray → Option (ByteArray × Int)) (g13 : ByteArray → Option (ByteArray × Int)) (g14 : ByteArray → Option ByteArray)  (h7 : CtOK Go.Proofs.Try.prog 7 (ct_transomlaw36_awake g7)) (h11 : CtOK Go.Proofs.Try.prog 11 (ct_words_Quote g11)) (h12 : CtOK Go.Proofs.Try.prog 12 (ct_words_Unquote g12)) (h13 : CtOK Go.Proofs.Try.prog 13 (ct_transomref36_Unquote g13)) (h14 : CtOK Go.Proofs.Try.prog 14 (ct_transomref36_Quote g14)) : EnvOK (env_transomlaw36_WordsQuotes g7 g11 g12 g13 g14 ).toEnv := by
  intro f c h
  simp only [env_transomlaw36_WordsQuotes] at h
  split at h
  · rename_i e; subst e; cases h; exact h7
  split at h
  · rename_i e; subst e; cases h; exact h11
  split at h
  · rename_i e; subst e; cases h; exact h12
  split at h
  · rename_i e; subst e; cases h; exact h13
  split at h
  · rename_i e; subst e; cases h; exact h14
  simp at h
theorem transomlaw36_WordsQuotes.ok (k : Nat) : CtOK Go.Proofs.Try.prog 4 (ct_transomlaw36_WordsQuotes (transomlaw36_WordsQuotes.f k)) := by
  refine ct_of_ev (E := env_transomlaw36_WordsQuotes (transomlaw36_awake.f k) (words_Quote.f k) (words_Unquote.f k) (transomref36_Unquote.f k) (transomref36_Quote.f k) ) (transomlaw36_WordsQuotes.is _ _ _ _ _ ) (transomlaw36_WordsQuotes.envok _ _ _ _ _  (transomlaw36_awake.ok k) (words_Quote.ok k) (words_Unquote.ok k) (transomref36_Unquote.ok k) (transomref36_Quote.ok k)) (fun s hs => by simp [env_transomlaw36_WordsQuotes] at hs) rfl ?_
  intro tvs blks res h
  simp only [ct_transomlaw36_WordsQuotes] at h
  split at h
  · refine (transomlaw36_WordsQuotes.ev (transomlaw36_awake.f k) (words_Quote.f k) (words_Unquote.f k) (transomref36_Unquote.f k) (transomref36_Quote.f k)  _ ).trans ?_
    rw [transomlaw36_WordsQuotes.c_bind]
    exact h
  · simp at h
end Go.Proofs.Ytchlbajnmhffpaa.Aev
