/- By a program of this session (AEV): functions of the program as plain functions, and that the machine does what they say. -/
import Derived.Test.YtpcojbnoadnknaaAevW
import Derived.Test.YtpcojbnoadnknaaProg
import Derived.Laws.Externs
import Derived.Lib.Bytealg
import Derived.Test.YtpcojbnoadnknaaF2
import Derived.Test.YtpcojbnoadnknaaF3
import Derived.Test.YtpcojbnoadnknaaF7
namespace Go.Proofs.Ytpcojbnoadnknaa.Aev
set_option linter.unusedVariables false
set_option linter.unusedSimpArgs false
set_option maxRecDepth 100000
set_option maxHeartbeats 4000000
open Go
/-! ### transomlaw05_KeycodeReads: function 3 -/
def ct_transomlaw05_KeycodeReads (g : ByteArray → Option Bool) : Ct where
  nin := 0
  mv := []
  F := fun tvs blks {β} K => match tvs, blks with
    | [.v (.one (.d .str a0))], [] => (g a0).bind fun r => K ⟨.v (.one (.d .bool r)), []⟩
    | _, _ => none
  legit := fun tvs blks K r h => by
    split at h
    · obtain ⟨x, hx, hk⟩ := Option.bind_eq_some_iff.1 h
      refine ⟨_, ?_, hk⟩
      simp only [hx, Option.bind_some]
    · simp at h
noncomputable def env_transomlaw05_KeycodeReads (g8 : Option Bool) (g9 : ByteArray → Option (Int × Int × Int × ByteArray × ByteArray × Int)) (g10 : ByteArray → Option (Int × Int × Int × ByteArray × ByteArray × Int)) (g11 : ByteArray → Option ((List (Int × (Int × (Int × (ByteArray × Unit))))) × Int)) (g12 : ByteArray → Option ((List (Int × (Int × (Int × (ByteArray × Unit))))) × Int)) (g13 : Int → Int → Int → ByteArray → Int → Int → Int → ByteArray → Option Bool) (g14 : (List (Int × (Int × (Int × (ByteArray × Unit))))) → (List (Int × (Int × (Int × (ByteArray × Unit))))) → Option Bool)  : FEnv := { P := Go.Proofs.Try.prog, ct := fun m => if m = 8 then some (ct_transomlaw05_awake g8) else if m = 9 then some (ct_keycode_Read g9) else if m = 10 then some (ct_transomref05_Read g10) else if m = 11 then some (ct_keycode_ReadRow g11) else if m = 12 then some (ct_transomref05_ReadRow g12) else if m = 13 then some (ct_transomref04_Same g13) else if m = 14 then some (ct_transomref04_SameRow g14) else none, N := 65, body := Go.Proofs.Try.f3.body.getD .skip, rvs := [.tmp 2], rts := [4], nin := 0, rmv := [], segs := [] }
def transomlaw05_KeycodeReads.c {β : Type} (g8 : Option Bool) (g9 : ByteArray → Option (Int × Int × Int × ByteArray × ByteArray × Int)) (g10 : ByteArray → Option (Int × Int × Int × ByteArray × ByteArray × Int)) (g11 : ByteArray → Option ((List (Int × (Int × (Int × (ByteArray × Unit))))) × Int)) (g12 : ByteArray → Option ((List (Int × (Int × (Int × (ByteArray × Unit))))) × Int)) (g13 : Int → Int → Int → ByteArray → Int → Int → Int → ByteArray → Option Bool) (g14 : (List (Int × (Int × (Int × (ByteArray × Unit))))) → (List (Int × (Int × (Int × (ByteArray × Unit))))) → Option Bool)  (a0 : ByteArray) (ret : Bool → Option β) : Option β := (bif (decide (((ByteArray.size a0) : Int) > (2000 : Int))) then (g8.bind fun r0 => (ret (r0))) else ((g9 a0).bind fun r1 => ((g10 a0).bind fun r2 => ((g11 a0).bind fun r3 => ((g12 a0).bind fun r4 => ((g13 r1.1 r1.2.1 r1.2.2.1 r1.2.2.2.1 r2.1 r2.2.1 r2.2.2.1 r2.2.2.2.1).bind fun r5 => (bif r5 then (bif ((ByteArray.toList r1.2.2.2.2.1) == (ByteArray.toList r2.2.2.2.2.1)) then (bif (r1.2.2.2.2.2 == r2.2.2.2.2.2) then ((g14 r3.1 r4.1).bind fun r6 => (bif r6 then (bif (r3.2 == r4.2) then (g8.bind fun r7 => (ret (r7))) else (ret (false))) else (ret (false)))) else (ret (false))) else (ret (false))) else (ret (false)))))))))
theorem transomlaw05_KeycodeReads.c_bind {β : Type} (g8 : Option Bool) (g9 : ByteArray → Option (Int × Int × Int × ByteArray × ByteArray × Int)) (g10 : ByteArray → Option (Int × Int × Int × ByteArray × ByteArray × Int)) (g11 : ByteArray → Option ((List (Int × (Int × (Int × (ByteArray × Unit))))) × Int)) (g12 : ByteArray → Option ((List (Int × (Int × (Int × (ByteArray × Unit))))) × Int)) (g13 : Int → Int → Int → ByteArray → Int → Int → Int → ByteArray → Option Bool) (g14 : (List (Int × (Int × (Int × (ByteArray × Unit))))) → (List (Int × (Int × (Int × (ByteArray × Unit))))) → Option Bool)  (a0 : ByteArray) (ret : Bool → Option β) : transomlaw05_KeycodeReads.c g8 g9 g10 g11 g12 g13 g14  a0 ret = (transomlaw05_KeycodeReads.c g8 g9 g10 g11 g12 g13 g14  a0 some).bind ret := by
  simp only [transomlaw05_KeycodeReads.c, bif_bind, sum_bind, Option.bind_assoc, Option.bind_some, Option.bind_none, Option.bind_fun_some]
theorem transomlaw05_KeycodeReads.ev (g8 : Option Bool) (g9 : ByteArray → Option (Int × Int × Int × ByteArray × ByteArray × Int)) (g10 : ByteArray → Option (Int × Int × Int × ByteArray × ByteArray × Int)) (g11 : ByteArray → Option ((List (Int × (Int × (Int × (ByteArray × Unit))))) × Int)) (g12 : ByteArray → Option ((List (Int × (Int × (Int × (ByteArray × Unit))))) × Int)) (g13 : Int → Int → Int → ByteArray → Int → Int → Int → ByteArray → Option Bool) (g14 : (List (Int × (Int × (Int × (ByteArray × Unit))))) → (List (Int × (Int × (Int × (ByteArray × Unit))))) → Option Bool)  (a0 : ByteArray) : evAt (env_transomlaw05_KeycodeReads g8 g9 g10 g11 g12 g13 g14 ) [] [0] [.v (.one (.d .str a0))] [] some = transomlaw05_KeycodeReads.c g8 g9 g10 g11 g12 g13 g14  a0 (fun r => some ⟨.v (.one (.d .bool r)), []⟩) := by
  kernel_rfl
def transomlaw05_KeycodeReads.f (k : Nat) (a0 : ByteArray) : Option Bool := transomlaw05_KeycodeReads.c (transomlaw05_awake.f k) (keycode_Read.f k) (transomref05_Read.f k) (keycode_ReadRow.f k) (transomref05_ReadRow.f k) (transomref04_Same.f k) (transomref04_SameRow.f k)  a0 some
theorem transomlaw05_KeycodeReads.is (g8 : Option Bool) (g9 : ByteArray → Option (Int × Int × Int × ByteArray × ByteArray × Int)) (g10 : ByteArray → Option (Int × Int × Int × ByteArray × ByteArray × Int)) (g11 : ByteArray → Option ((List (Int × (Int × (Int × (ByteArray × Unit))))) × Int)) (g12 : ByteArray → Option ((List (Int × (Int × (Int × (ByteArray × Unit))))) × Int)) (g13 : Int → Int → Int → ByteArray → Int → Int → Int → ByteArray → Option Bool) (g14 : (List (Int × (Int × (Int × (ByteArray × Unit))))) → (List (Int × (Int × (Int × (ByteArray × Unit))))) → Option Bool)  : FnIs (env_transomlaw05_KeycodeReads g8 g9 g10 g11 g12 g13 g14 ) 3 Go.Proofs.Try.f3 := ⟨Go.Proofs.Try.func3, rfl, rfl, rfl, by decide⟩
theorem transomlaw05_KeycodeReads.envok (g8 : Option Bool) (g9 : ByteArray → Option (Int × Int × Int × ByteArray × ByteArray × Int)) (g10 : ByteArray → Option (Int × Int × Int × ByteArray × ByteArray × Int)) (g11 : ByteArray → Option ((List (Int × (Int × (Int × (ByteArray × Unit))))) × Int)) (g12 : ByteArray → Option ((List (Int × (Int × (Int × (ByteArray × Unit))))) × Int)) (g13 : Int → Int → Int → ByteArray → Int → Int → Int → ByteArray → Option Bool) (g14 : (List (Int × (Int × (Int × (ByteArray × Unit))))) → (List (Int × (Int × (Int × (ByteArray × Unit))))) → Option Bool)  (h8 : CtOK Go.Proofs.Try.prog 8 (ct_transomlaw05_awake g8)) (h9 : CtOK Go.Proofs.Try.prog 9 (ct_keycode_Read g9)) (h10 : CtOK Go.Proofs.Try.prog 10 (ct_transomref05_Read g10)) (h11 : CtOK Go.Proofs.Try.prog 11 (ct_keycode_ReadRow g11)) (h12 : CtOK Go.Proofs.Try.prog 12 (ct_transomref05_ReadRow g12)) (h13 : CtOK Go.Proofs.Try.prog 13 (ct_transomref04_Same g13)) (h14 : CtOK Go.Proofs.Try.prog 14 (ct_transomref04_SameRow g14)) : EnvOK (env_transomlaw05_KeycodeReads g8 g9 g10 g11 g12 g13 g14 ).toEnv := by
  intro f c h
  simp only [env_transomlaw05_KeycodeReads] at h
  split at h
  · rename_i e; subst e; cases h; exact h8
  split at h
  · rename_i e; subst e; cases h; exact h9
  split at h
  · rename_i e; subst e; cases h; exact h10
  split at h
  · rename_i e; subst e; cases h; exact h11
  split at h
  · rename_i e; subst e; cases h; exact h12
  split at h
  · rename_i e; subst e; cases h; exact h13
  split at h
  · rename_i e; subst e; cases h; exact h14
  simp at h
theorem transomlaw05_KeycodeReads.ok (k : Nat) : CtOK Go.Proofs.Try.prog 3 (ct_transomlaw05_KeycodeReads (transomlaw05_KeycodeReads.f k)) := by
  refine ct_of_ev (E := env_transomlaw05_KeycodeReads (transomlaw05_awake.f k) (keycode_Read.f k) (transomref05_Read.f k) (keycode_ReadRow.f k) (transomref05_ReadRow.f k) (transomref04_Same.f k) (transomref04_SameRow.f k) ) (transomlaw05_KeycodeReads.is _ _ _ _ _ _ _ ) (transomlaw05_KeycodeReads.envok _ _ _ _ _ _ _  (transomlaw05_awake.ok k) (keycode_Read.ok k) (transomref05_Read.ok k) (keycode_ReadRow.ok k) (transomref05_ReadRow.ok k) (transomref04_Same.ok k) (transomref04_SameRow.ok k)) (fun s hs => by simp [env_transomlaw05_KeycodeReads] at hs) rfl ?_
  intro tvs blks res h
  simp only [ct_transomlaw05_KeycodeReads] at h
  split at h
  · refine (transomlaw05_KeycodeReads.ev (transomlaw05_awake.f k) (keycode_Read.f k) (transomref05_Read.f k) (keycode_ReadRow.f k) (transomref05_ReadRow.f k) (transomref04_Same.f k) (transomref04_SameRow.f k)  _ ).trans ?_
    rw [transomlaw05_KeycodeReads.c_bind]
    exact h
  · simp at h
end Go.Proofs.Ytpcojbnoadnknaa.Aev
