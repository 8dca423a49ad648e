/- By a program of this session (AEV): functions of the program as plain functions, and that the machine does what they say. -/
import Derived.Test.YtpcojbnoadnknaaAevW
import Derived.Test.YtpcojbnoadnknaaProg
import Derived.Laws.Externs
import Derived.Lib.Bytealg
import Derived.Test.YtpcojbnoadnknaaF2
import Derived.Test.YtpcojbnoadnknaaF3
import Derived.Test.YtpcojbnoadnknaaF7
import Derived.Test.YtpcojbnoadnknaaF11
namespace Go.Proofs.Ytpcojbnoadnknaa.Aev
set_option linter.unusedVariables false
set_option linter.unusedSimpArgs false
set_option maxRecDepth 100000
set_option maxHeartbeats 4000000
open Go
/-! ### transomlaw05_KeycodeBack: function 5 -/
def ct_transomlaw05_KeycodeBack (g : Int → Int → Int → ByteArray → ByteArray → Option Bool) : Ct where
  nin := 0
  mv := []
  F := fun tvs blks {β} K => match tvs, blks with
    | [.v (.agg [(.d (.int .i64) a0), (.d (.int .i64) a1), (.d (.int .u64) a2), (.d .str a3)]), .v (.one (.d .str a4))], [] => (g a0 a1 a2 a3 a4).bind fun r => K ⟨.v (.one (.d .bool r)), []⟩
    | _, _ => none
  legit := fun tvs blks K r h => by
    split at h
    · obtain ⟨x, hx, hk⟩ := Option.bind_eq_some_iff.1 h
      refine ⟨_, ?_, hk⟩
      simp only [hx, Option.bind_some]
    · simp at h
def seg_transomlaw05_KeycodeBack_0 (g : ByteArray → Bool → Int → Int → Int → ByteArray → Option Bool) : Seg where
  path := [1, 0, 1]
  prep := []
  keep := [1, 2, 21]
  F := fun tvs blks {β} K => match tvs, blks with
    | [.v (.one (.d .str x0)), .v (.one (.ptr 0 0)), .v (.one (.d .bool x1))], [some (.box [(.d (.int .i64) x2), (.d (.int .i64) x3), (.d (.int .u64) x4), (.d .str x5)])] => (g x0 x1 x2 x3 x4 x5).bind fun r => K ⟨.v (.one (.d .bool r)), []⟩
    | _, _ => none
  legit := fun tvs blks K r h => by
    split at h
    · obtain ⟨x, hx, hk⟩ := Option.bind_eq_some_iff.1 h
      refine ⟨_, ?_, hk⟩
      simp only [hx, Option.bind_some]
    · simp at h
def seg_transomlaw05_KeycodeBack_1 (g : ByteArray → Int → Int → Int → ByteArray → Option Bool) : Seg where
  path := [1, 1]
  prep := []
  keep := [1, 2]
  F := fun tvs blks {β} K => match tvs, blks with
    | [.v (.one (.d .str x0)), .v (.one (.ptr 0 0))], [some (.box [(.d (.int .i64) x1), (.d (.int .i64) x2), (.d (.int .u64) x3), (.d .str x4)])] => (g x0 x1 x2 x3 x4).bind fun r => K ⟨.v (.one (.d .bool r)), []⟩
    | _, _ => none
  legit := fun tvs blks K r h => by
    split at h
    · obtain ⟨x, hx, hk⟩ := Option.bind_eq_some_iff.1 h
      refine ⟨_, ?_, hk⟩
      simp only [hx, Option.bind_some]
    · simp at h
def seg_transomlaw05_KeycodeBack_2 (g : Bool → Option Bool) : Seg where
  path := [1, 2, 1, 0, 1, 1, 1]
  prep := []
  keep := [4]
  F := fun tvs blks {β} K => match tvs, blks with
    | [.v (.one (.d .bool x0))], [] => (g x0).bind fun r => K ⟨.v (.one (.d .bool r)), []⟩
    | _, _ => none
  legit := fun tvs blks K r h => by
    split at h
    · obtain ⟨x, hx, hk⟩ := Option.bind_eq_some_iff.1 h
      refine ⟨_, ?_, hk⟩
      simp only [hx, Option.bind_some]
    · simp at h
def seg_transomlaw05_KeycodeBack_3 (g : ByteArray → Bool → Option Bool) : Seg where
  path := [1, 0, 1, 1, 1, 1, 1]
  prep := []
  keep := [5, 55]
  F := fun tvs blks {β} K => match tvs, blks with
    | [.v (.one (.d .str x0)), .v (.one (.d .bool x1))], [] => (g x0 x1).bind fun r => K ⟨.v (.one (.d .bool r)), []⟩
    | _, _ => none
  legit := fun tvs blks K r h => by
    split at h
    · obtain ⟨x, hx, hk⟩ := Option.bind_eq_some_iff.1 h
      refine ⟨_, ?_, hk⟩
      simp only [hx, Option.bind_some]
    · simp at h
def seg_transomlaw05_KeycodeBack_4 (g : ByteArray → Option Bool) : Seg where
  path := [1, 1, 1, 1, 1, 1]
  prep := []
  keep := [5]
  F := fun tvs blks {β} K => match tvs, blks with
    | [.v (.one (.d .str x0))], [] => (g x0).bind fun r => K ⟨.v (.one (.d .bool r)), []⟩
    | _, _ => none
  legit := fun tvs blks K r h => by
    split at h
    · obtain ⟨x, hx, hk⟩ := Option.bind_eq_some_iff.1 h
      refine ⟨_, ?_, hk⟩
      simp only [hx, Option.bind_some]
    · simp at h
def seg_transomlaw05_KeycodeBack_5 (g : ByteArray → Int → Option Bool) : Seg where
  path := [4, 1, 0, 1, 1, 1, 1, 1, 1]
  prep := []
  keep := [5, 10]
  F := fun tvs blks {β} K => match tvs, blks with
    | [.v (.one (.d .str x0)), .v (.one (.d (.int .i64) x1))], [] => (g x0 x1).bind fun r => K ⟨.v (.one (.d .bool r)), []⟩
    | _, _ => none
  legit := fun tvs blks K r h => by
    split at h
    · obtain ⟨x, hx, hk⟩ := Option.bind_eq_some_iff.1 h
      refine ⟨_, ?_, hk⟩
      simp only [hx, Option.bind_some]
    · simp at h
noncomputable def env_transomlaw05_KeycodeBack (g8 : Option Bool) (g9 : ByteArray → Option (Int × Int × Int × ByteArray × ByteArray × Int)) (g13 : Int → Int → Int → ByteArray → Int → Int → Int → ByteArray → Option Bool) (g17 : Int → Int → Int → ByteArray → Option Int) (g18 : Int → Int → Int → ByteArray → Option (ByteArray × Int)) (s0 : ByteArray → Bool → Int → Int → Int → ByteArray → Option Bool) (s1 : ByteArray → Int → Int → Int → ByteArray → Option Bool) (s2 : Bool → Option Bool) (s3 : ByteArray → Bool → Option Bool) (s4 : ByteArray → Option Bool) (s5 : ByteArray → Int → Option Bool) : FEnv := { P := Go.Proofs.Try.prog, ct := fun m => if m = 8 then some (ct_transomlaw05_awake g8) else if m = 9 then some (ct_keycode_Read g9) else if m = 13 then some (ct_transomref04_Same g13) else if m = 17 then some (ct_transomlaw04_Few g17) else if m = 18 then some (ct_keycode_Put g18) else none, N := 73, body := Go.Proofs.Try.f5.body.getD .skip, rvs := [.tmp 4], rts := [4], nin := 0, rmv := [], segs := [seg_transomlaw05_KeycodeBack_0 s0, seg_transomlaw05_KeycodeBack_1 s1, seg_transomlaw05_KeycodeBack_2 s2, seg_transomlaw05_KeycodeBack_3 s3, seg_transomlaw05_KeycodeBack_4 s4, seg_transomlaw05_KeycodeBack_5 s5] }
def transomlaw05_KeycodeBack.c {β : Type} (g8 : Option Bool) (g9 : ByteArray → Option (Int × Int × Int × ByteArray × ByteArray × Int)) (g13 : Int → Int → Int → ByteArray → Int → Int → Int → ByteArray → Option Bool) (g17 : Int → Int → Int → ByteArray → Option Int) (g18 : Int → Int → Int → ByteArray → Option (ByteArray × Int)) (s0 : ByteArray → Bool → Int → Int → Int → ByteArray → Option Bool) (s1 : ByteArray → Int → Int → Int → ByteArray → Option Bool) (s2 : Bool → Option Bool) (s3 : ByteArray → Bool → Option Bool) (s4 : ByteArray → Option Bool) (s5 : ByteArray → Int → Option Bool) (a0 : Int) (a1 : Int) (a2 : Int) (a3 : ByteArray) (a4 : ByteArray) (ret : Bool → Option β) : Option β := ((g17 a0 a1 a2 a3).bind fun r0 => (bif (r0 == (0 : Int)) then ((s0 a4 true a0 a1 a2 a3).bind ret) else ((s0 a4 (decide (((ByteArray.size a4) : Int) > (2000 : Int))) a0 a1 a2 a3).bind ret)))
def transomlaw05_KeycodeBack.s0c {β : Type} (g8 : Option Bool) (g9 : ByteArray → Option (Int × Int × Int × ByteArray × ByteArray × Int)) (g13 : Int → Int → Int → ByteArray → Int → Int → Int → ByteArray → Option Bool) (g17 : Int → Int → Int → ByteArray → Option Int) (g18 : Int → Int → Int → ByteArray → Option (ByteArray × Int)) (s0 : ByteArray → Bool → Int → Int → Int → ByteArray → Option Bool) (s1 : ByteArray → Int → Int → Int → ByteArray → Option Bool) (s2 : Bool → Option Bool) (s3 : ByteArray → Bool → Option Bool) (s4 : ByteArray → Option Bool) (s5 : ByteArray → Int → Option Bool) (x0 : ByteArray) (x1 : Bool) (x2 : Int) (x3 : Int) (x4 : Int) (x5 : ByteArray) (ret : Bool → Option β) : Option β := (bif x1 then (g8.bind fun r0 => (ret (r0))) else ((s1 x0 x2 x3 x4 x5).bind ret))
def transomlaw05_KeycodeBack.s1c {β : Type} (g8 : Option Bool) (g9 : ByteArray → Option (Int × Int × Int × ByteArray × ByteArray × Int)) (g13 : Int → Int → Int → ByteArray → Int → Int → Int → ByteArray → Option Bool) (g17 : Int → Int → Int → ByteArray → Option Int) (g18 : Int → Int → Int → ByteArray → Option (ByteArray × Int)) (s0 : ByteArray → Bool → Int → Int → Int → ByteArray → Option Bool) (s1 : ByteArray → Int → Int → Int → ByteArray → Option Bool) (s2 : Bool → Option Bool) (s3 : ByteArray → Bool → Option Bool) (s4 : ByteArray → Option Bool) (s5 : ByteArray → Int → Option Bool) (x0 : ByteArray) (x1 : Int) (x2 : Int) (x3 : Int) (x4 : ByteArray) (ret : Bool → Option β) : Option β := ((g18 x1 x2 x3 x4).bind fun r0 => (bif (r0.2 != (0 : Int)) then (bif ((ByteArray.toList r0.1) == (ByteArray.toList (ByteArray.mk (List.toArray [])))) then (g8.bind fun r1 => ((s2 r1).bind ret)) else ((s2 false).bind ret)) else (bif ((decide ((ByteArray.size r0.1) ≤ (4611686018427387903 : Nat))) && (decide ((ByteArray.size x0) ≤ (4611686018427387903 : Nat)))) then ((g9 (r0.1 ++ x0)).bind fun r2 => ((g13 x1 x2 x3 x4 r2.1 r2.2.1 r2.2.2.1 r2.2.2.2.1).bind fun r3 => (bif (!r3) then ((s3 r0.1 true).bind ret) else (bif (!((ByteArray.toList r2.2.2.2.2.1) == (ByteArray.toList x0))) then ((s3 r0.1 true).bind ret) else ((s3 r0.1 (r2.2.2.2.2.2 != (0 : Int))).bind ret))))) else none)))
def transomlaw05_KeycodeBack.s2c {β : Type} (g8 : Option Bool) (g9 : ByteArray → Option (Int × Int × Int × ByteArray × ByteArray × Int)) (g13 : Int → Int → Int → ByteArray → Int → Int → Int → ByteArray → Option Bool) (g17 : Int → Int → Int → ByteArray → Option Int) (g18 : Int → Int → Int → ByteArray → Option (ByteArray × Int)) (s0 : ByteArray → Bool → Int → Int → Int → ByteArray → Option Bool) (s1 : ByteArray → Int → Int → Int → ByteArray → Option Bool) (s2 : Bool → Option Bool) (s3 : ByteArray → Bool → Option Bool) (s4 : ByteArray → Option Bool) (s5 : ByteArray → Int → Option Bool) (x0 : Bool) (ret : Bool → Option β) : Option β := (ret (x0))
def transomlaw05_KeycodeBack.s3c {β : Type} (g8 : Option Bool) (g9 : ByteArray → Option (Int × Int × Int × ByteArray × ByteArray × Int)) (g13 : Int → Int → Int → ByteArray → Int → Int → Int → ByteArray → Option Bool) (g17 : Int → Int → Int → ByteArray → Option Int) (g18 : Int → Int → Int → ByteArray → Option (ByteArray × Int)) (s0 : ByteArray → Bool → Int → Int → Int → ByteArray → Option Bool) (s1 : ByteArray → Int → Int → Int → ByteArray → Option Bool) (s2 : Bool → Option Bool) (s3 : ByteArray → Bool → Option Bool) (s4 : ByteArray → Option Bool) (s5 : ByteArray → Int → Option Bool) (x0 : ByteArray) (x1 : Bool) (ret : Bool → Option β) : Option β := (bif x1 then (ret (false)) else ((s4 x0).bind ret))
def transomlaw05_KeycodeBack.s4c {β : Type} (g8 : Option Bool) (g9 : ByteArray → Option (Int × Int × Int × ByteArray × ByteArray × Int)) (g13 : Int → Int → Int → ByteArray → Int → Int → Int → ByteArray → Option Bool) (g17 : Int → Int → Int → ByteArray → Option Int) (g18 : Int → Int → Int → ByteArray → Option (ByteArray × Int)) (s0 : ByteArray → Bool → Int → Int → Int → ByteArray → Option Bool) (s1 : ByteArray → Int → Int → Int → ByteArray → Option Bool) (s2 : Bool → Option Bool) (s3 : ByteArray → Bool → Option Bool) (s4 : ByteArray → Option Bool) (s5 : ByteArray → Int → Option Bool) (x0 : ByteArray) (ret : Bool → Option β) : Option β := ((s5 x0 (0 : Int)).bind ret)
def transomlaw05_KeycodeBack.s5c {β : Type} (g8 : Option Bool) (g9 : ByteArray → Option (Int × Int × Int × ByteArray × ByteArray × Int)) (g13 : Int → Int → Int → ByteArray → Int → Int → Int → ByteArray → Option Bool) (g17 : Int → Int → Int → ByteArray → Option Int) (g18 : Int → Int → Int → ByteArray → Option (ByteArray × Int)) (s0 : ByteArray → Bool → Int → Int → Int → ByteArray → Option Bool) (s1 : ByteArray → Int → Int → Int → ByteArray → Option Bool) (s2 : Bool → Option Bool) (s3 : ByteArray → Bool → Option Bool) (s4 : ByteArray → Option Bool) (s5 : ByteArray → Int → Option Bool) (x0 : ByteArray) (x1 : Int) (ret : Bool → Option β) : Option β := (bif (decide (x1 < ((ByteArray.size x0) : Int))) then (bif ((true && (decide ((0 : Int) ≤ x1))) && (decide (x1 ≤ ((ByteArray.size x0) : Int)))) then ((g9 (ByteArray.extract x0 (0 : Nat) (Int.toNat x1))).bind fun r0 => (bif (r0.2.2.2.2.2 != (3 : Int)) then (ret (false)) else ((s5 x0 (IntKind.wrap IntKind.i64 (x1 + (1 : Int)))).bind ret))) else none) else (g8.bind fun r1 => (ret (r1))))
theorem transomlaw05_KeycodeBack.c_bind {β : Type} (g8 : Option Bool) (g9 : ByteArray → Option (Int × Int × Int × ByteArray × ByteArray × Int)) (g13 : Int → Int → Int → ByteArray → Int → Int → Int → ByteArray → Option Bool) (g17 : Int → Int → Int → ByteArray → Option Int) (g18 : Int → Int → Int → ByteArray → Option (ByteArray × Int)) (s0 : ByteArray → Bool → Int → Int → Int → ByteArray → Option Bool) (s1 : ByteArray → Int → Int → Int → ByteArray → Option Bool) (s2 : Bool → Option Bool) (s3 : ByteArray → Bool → Option Bool) (s4 : ByteArray → Option Bool) (s5 : ByteArray → Int → Option Bool) (a0 : Int) (a1 : Int) (a2 : Int) (a3 : ByteArray) (a4 : ByteArray) (ret : Bool → Option β) : transomlaw05_KeycodeBack.c g8 g9 g13 g17 g18 s0 s1 s2 s3 s4 s5 a0 a1 a2 a3 a4 ret = (transomlaw05_KeycodeBack.c g8 g9 g13 g17 g18 s0 s1 s2 s3 s4 s5 a0 a1 a2 a3 a4 some).bind ret := by
  simp only [transomlaw05_KeycodeBack.c, bif_bind, sum_bind, Option.bind_assoc, Option.bind_some, Option.bind_none, Option.bind_fun_some]
theorem transomlaw05_KeycodeBack.s0c_bind {β : Type} (g8 : Option Bool) (g9 : ByteArray → Option (Int × Int × Int × ByteArray × ByteArray × Int)) (g13 : Int → Int → Int → ByteArray → Int → Int → Int → ByteArray → Option Bool) (g17 : Int → Int → Int → ByteArray → Option Int) (g18 : Int → Int → Int → ByteArray → Option (ByteArray × Int)) (s0 : ByteArray → Bool → Int → Int → Int → ByteArray → Option Bool) (s1 : ByteArray → Int → Int → Int → ByteArray → Option Bool) (s2 : Bool → Option Bool) (s3 : ByteArray → Bool → Option Bool) (s4 : ByteArray → Option Bool) (s5 : ByteArray → Int → Option Bool) (x0 : ByteArray) (x1 : Bool) (x2 : Int) (x3 : Int) (x4 : Int) (x5 : ByteArray) (ret : Bool → Option β) : transomlaw05_KeycodeBack.s0c g8 g9 g13 g17 g18 s0 s1 s2 s3 s4 s5 x0 x1 x2 x3 x4 x5 ret = (transomlaw05_KeycodeBack.s0c g8 g9 g13 g17 g18 s0 s1 s2 s3 s4 s5 x0 x1 x2 x3 x4 x5 some).bind ret := by
  simp only [transomlaw05_KeycodeBack.s0c, bif_bind, sum_bind, Option.bind_assoc, Option.bind_some, Option.bind_none, Option.bind_fun_some]
theorem transomlaw05_KeycodeBack.s1c_bind {β : Type} (g8 : Option Bool) (g9 : ByteArray → Option (Int × Int × Int × ByteArray × ByteArray × Int)) (g13 : Int → Int → Int → ByteArray → Int → Int → Int → ByteArray → Option Bool) (g17 : Int → Int → Int → ByteArray → Option Int) (g18 : Int → Int → Int → ByteArray → Option (ByteArray × Int)) (s0 : ByteArray → Bool → Int → Int → Int → ByteArray → Option Bool) (s1 : ByteArray → Int → Int → Int → ByteArray → Option Bool) (s2 : Bool → Option Bool) (s3 : ByteArray → Bool → Option Bool) (s4 : ByteArray → Option Bool) (s5 : ByteArray → Int → Option Bool) (x0 : ByteArray) (x1 : Int) (x2 : Int) (x3 : Int) (x4 : ByteArray) (ret : Bool → Option β) : transomlaw05_KeycodeBack.s1c g8 g9 g13 g17 g18 s0 s1 s2 s3 s4 s5 x0 x1 x2 x3 x4 ret = (transomlaw05_KeycodeBack.s1c g8 g9 g13 g17 g18 s0 s1 s2 s3 s4 s5 x0 x1 x2 x3 x4 some).bind ret := by
  simp only [transomlaw05_KeycodeBack.s1c, bif_bind, sum_bind, Option.bind_assoc, Option.bind_some, Option.bind_none, Option.bind_fun_some]
theorem transomlaw05_KeycodeBack.s2c_bind {β : Type} (g8 : Option Bool) (g9 : ByteArray → Option (Int × Int × Int × ByteArray × ByteArray × Int)) (g13 : Int → Int → Int → ByteArray → Int → Int → Int → ByteArray → Option Bool) (g17 : Int → Int → Int → ByteArray → Option Int) (g18 : Int → Int → Int → ByteArray → Option (ByteArray × Int)) (s0 : ByteArray → Bool → Int → Int → Int → ByteArray → Option Bool) (s1 : ByteArray → Int → Int → Int → ByteArray → Option Bool) (s2 : Bool → Option Bool) (s3 : ByteArray → Bool → Option Bool) (s4 : ByteArray → Option Bool) (s5 : ByteArray → Int → Option Bool) (x0 : Bool) (ret : Bool → Option β) : transomlaw05_KeycodeBack.s2c g8 g9 g13 g17 g18 s0 s1 s2 s3 s4 s5 x0 ret = (transomlaw05_KeycodeBack.s2c g8 g9 g13 g17 g18 s0 s1 s2 s3 s4 s5 x0 some).bind ret := by
  simp only [transomlaw05_KeycodeBack.s2c, bif_bind, sum_bind, Option.bind_assoc, Option.bind_some, Option.bind_none, Option.bind_fun_some]
theorem transomlaw05_KeycodeBack.s3c_bind {β : Type} (g8 : Option Bool) (g9 : ByteArray → Option (Int × Int × Int × ByteArray × ByteArray × Int)) (g13 : Int → Int → Int → ByteArray → Int → Int → Int → ByteArray → Option Bool) (g17 : Int → Int → Int → ByteArray → Option Int) (g18 : Int → Int → Int → ByteArray → Option (ByteArray × Int)) (s0 : ByteArray → Bool → Int → Int → Int → ByteArray → Option Bool) (s1 : ByteArray → Int → Int → Int → ByteArray → Option Bool) (s2 : Bool → Option Bool) (s3 : ByteArray → Bool → Option Bool) (s4 : ByteArray → Option Bool) (s5 : ByteArray → Int → Option Bool) (x0 : ByteArray) (x1 : Bool) (ret : Bool → Option β) : transomlaw05_KeycodeBack.s3c g8 g9 g13 g17 g18 s0 s1 s2 s3 s4 s5 x0 x1 ret = (transomlaw05_KeycodeBack.s3c g8 g9 g13 g17 g18 s0 s1 s2 s3 s4 s5 x0 x1 some).bind ret := by
  simp only [transomlaw05_KeycodeBack.s3c, bif_bind, sum_bind, Option.bind_assoc, Option.bind_some, Option.bind_none, Option.bind_fun_some]
theorem transomlaw05_KeycodeBack.s4c_bind {β : Type} (g8 : Option Bool) (g9 : ByteArray → Option (Int × Int × Int × ByteArray × ByteArray × Int)) (g13 : Int → Int → Int → ByteArray → Int → Int → Int → ByteArray → Option Bool) (g17 : Int → Int → Int → ByteArray → Option Int) (g18 : Int → Int → Int → ByteArray → Option (ByteArray × Int)) (s0 : ByteArray → Bool → Int → Int → Int → ByteArray → Option Bool) (s1 : ByteArray → Int → Int → Int → ByteArray → Option Bool) (s2 : Bool → Option Bool) (s3 : ByteArray → Bool → Option Bool) (s4 : ByteArray → Option Bool) (s5 : ByteArray → Int → Option Bool) (x0 : ByteArray) (ret : Bool → Option β) : transomlaw05_KeycodeBack.s4c g8 g9 g13 g17 g18 s0 s1 s2 s3 s4 s5 x0 ret = (transomlaw05_KeycodeBack.s4c g8 g9 g13 g17 g18 s0 s1 s2 s3 s4 s5 x0 some).bind ret := by
  simp only [transomlaw05_KeycodeBack.s4c, bif_bind, sum_bind, Option.bind_assoc, Option.bind_some, Option.bind_none, Option.bind_fun_some]
theorem transomlaw05_KeycodeBack.s5c_bind {β : Type} (g8 : Option Bool) (g9 : ByteArray → Option (Int × Int × Int × ByteArray × ByteArray × Int)) (g13 : Int → Int → Int → ByteArray → Int → Int → Int → ByteArray → Option Bool) (g17 : Int → Int → Int → ByteArray → Option Int) (g18 : Int → Int → Int → ByteArray → Option (ByteArray × Int)) (s0 : ByteArray → Bool → Int → Int → Int → ByteArray → Option Bool) (s1 : ByteArray → Int → Int → Int → ByteArray → Option Bool) (s2 : Bool → Option Bool) (s3 : ByteArray → Bool → Option Bool) (s4 : ByteArray → Option Bool) (s5 : ByteArray → Int → Option Bool) (x0 : ByteArray) (x1 : Int) (ret : Bool → Option β) : transomlaw05_KeycodeBack.s5c g8 g9 g13 g17 g18 s0 s1 s2 s3 s4 s5 x0 x1 ret = (transomlaw05_KeycodeBack.s5c g8 g9 g13 g17 g18 s0 s1 s2 s3 s4 s5 x0 x1 some).bind ret := by
  simp only [transomlaw05_KeycodeBack.s5c, bif_bind, sum_bind, Option.bind_assoc, Option.bind_some, Option.bind_none, Option.bind_fun_some]
theorem transomlaw05_KeycodeBack.ev (g8 : Option Bool) (g9 : ByteArray → Option (Int × Int × Int × ByteArray × ByteArray × Int)) (g13 : Int → Int → Int → ByteArray → Int → Int → Int → ByteArray → Option Bool) (g17 : Int → Int → Int → ByteArray → Option Int) (g18 : Int → Int → Int → ByteArray → Option (ByteArray × Int)) (s0 : ByteArray → Bool → Int → Int → Int → ByteArray → Option Bool) (s1 : ByteArray → Int → Int → Int → ByteArray → Option Bool) (s2 : Bool → Option Bool) (s3 : ByteArray → Bool → Option Bool) (s4 : ByteArray → Option Bool) (s5 : ByteArray → Int → Option Bool) (a0 : Int) (a1 : Int) (a2 : Int) (a3 : ByteArray) (a4 : ByteArray) : evAt (env_transomlaw05_KeycodeBack g8 g9 g13 g17 g18 s0 s1 s2 s3 s4 s5) [] [0, 1] [.v (.agg [(.d (.int .i64) a0), (.d (.int .i64) a1), (.d (.int .u64) a2), (.d .str a3)]), .v (.one (.d .str a4))] [] some = transomlaw05_KeycodeBack.c g8 g9 g13 g17 g18 s0 s1 s2 s3 s4 s5 a0 a1 a2 a3 a4 (fun r => some ⟨.v (.one (.d .bool r)), []⟩) := by
  kernel_rfl
theorem transomlaw05_KeycodeBack.s0_ev (g8 : Option Bool) (g9 : ByteArray → Option (Int × Int × Int × ByteArray × ByteArray × Int)) (g13 : Int → Int → Int → ByteArray → Int → Int → Int → ByteArray → Option Bool) (g17 : Int → Int → Int → ByteArray → Option Int) (g18 : Int → Int → Int → ByteArray → Option (ByteArray × Int)) (s0 : ByteArray → Bool → Int → Int → Int → ByteArray → Option Bool) (s1 : ByteArray → Int → Int → Int → ByteArray → Option Bool) (s2 : Bool → Option Bool) (s3 : ByteArray → Bool → Option Bool) (s4 : ByteArray → Option Bool) (s5 : ByteArray → Int → Option Bool) (x0 : ByteArray) (x1 : Bool) (x2 : Int) (x3 : Int) (x4 : Int) (x5 : ByteArray) : evAt (env_transomlaw05_KeycodeBack g8 g9 g13 g17 g18 s0 s1 s2 s3 s4 s5) [1, 0, 1] [1, 2, 21] [.v (.one (.d .str x0)), .v (.one (.ptr 0 0)), .v (.one (.d .bool x1))] [some (.box [(.d (.int .i64) x2), (.d (.int .i64) x3), (.d (.int .u64) x4), (.d .str x5)])] some = transomlaw05_KeycodeBack.s0c g8 g9 g13 g17 g18 s0 s1 s2 s3 s4 s5 x0 x1 x2 x3 x4 x5 (fun r => some ⟨.v (.one (.d .bool r)), []⟩) := by
  kernel_rfl
theorem transomlaw05_KeycodeBack.s1_ev (g8 : Option Bool) (g9 : ByteArray → Option (Int × Int × Int × ByteArray × ByteArray × Int)) (g13 : Int → Int → Int → ByteArray → Int → Int → Int → ByteArray → Option Bool) (g17 : Int → Int → Int → ByteArray → Option Int) (g18 : Int → Int → Int → ByteArray → Option (ByteArray × Int)) (s0 : ByteArray → Bool → Int → Int → Int → ByteArray → Option Bool) (s1 : ByteArray → Int → Int → Int → ByteArray → Option Bool) (s2 : Bool → Option Bool) (s3 : ByteArray → Bool → Option Bool) (s4 : ByteArray → Option Bool) (s5 : ByteArray → Int → Option Bool) (x0 : ByteArray) (x1 : Int) (x2 : Int) (x3 : Int) (x4 : ByteArray) : evAt (env_transomlaw05_KeycodeBack g8 g9 g13 g17 g18 s0 s1 s2 s3 s4 s5) [1, 1] [1, 2] [.v (.one (.d .str x0)), .v (.one (.ptr 0 0))] [some (.box [(.d (.int .i64) x1), (.d (.int .i64) x2), (.d (.int .u64) x3), (.d .str x4)])] some = transomlaw05_KeycodeBack.s1c g8 g9 g13 g17 g18 s0 s1 s2 s3 s4 s5 x0 x1 x2 x3 x4 (fun r => some ⟨.v (.one (.d .bool r)), []⟩) := by
  kernel_rfl
theorem transomlaw05_KeycodeBack.s2_ev (g8 : Option Bool) (g9 : ByteArray → Option (Int × Int × Int × ByteArray × ByteArray × Int)) (g13 : Int → Int → Int → ByteArray → Int → Int → Int → ByteArray → Option Bool) (g17 : Int → Int → Int → ByteArray → Option Int) (g18 : Int → Int → Int → ByteArray → Option (ByteArray × Int)) (s0 : ByteArray → Bool → Int → Int → Int → ByteArray → Option Bool) (s1 : ByteArray → Int → Int → Int → ByteArray → Option Bool) (s2 : Bool → Option Bool) (s3 : ByteArray → Bool → Option Bool) (s4 : ByteArray → Option Bool) (s5 : ByteArray → Int → Option Bool) (x0 : Bool) : evAt (env_transomlaw05_KeycodeBack g8 g9 g13 g17 g18 s0 s1 s2 s3 s4 s5) [1, 2, 1, 0, 1, 1, 1] [4] [.v (.one (.d .bool x0))] [] some = transomlaw05_KeycodeBack.s2c g8 g9 g13 g17 g18 s0 s1 s2 s3 s4 s5 x0 (fun r => some ⟨.v (.one (.d .bool r)), []⟩) := by
  kernel_rfl
theorem transomlaw05_KeycodeBack.s3_ev (g8 : Option Bool) (g9 : ByteArray → Option (Int × Int × Int × ByteArray × ByteArray × Int)) (g13 : Int → Int → Int → ByteArray → Int → Int → Int → ByteArray → Option Bool) (g17 : Int → Int → Int → ByteArray → Option Int) (g18 : Int → Int → Int → ByteArray → Option (ByteArray × Int)) (s0 : ByteArray → Bool → Int → Int → Int → ByteArray → Option Bool) (s1 : ByteArray → Int → Int → Int → ByteArray → Option Bool) (s2 : Bool → Option Bool) (s3 : ByteArray → Bool → Option Bool) (s4 : ByteArray → Option Bool) (s5 : ByteArray → Int → Option Bool) (x0 : ByteArray) (x1 : Bool) : evAt (env_transomlaw05_KeycodeBack g8 g9 g13 g17 g18 s0 s1 s2 s3 s4 s5) [1, 0, 1, 1, 1, 1, 1] [5, 55] [.v (.one (.d .str x0)), .v (.one (.d .bool x1))] [] some = transomlaw05_KeycodeBack.s3c g8 g9 g13 g17 g18 s0 s1 s2 s3 s4 s5 x0 x1 (fun r => some ⟨.v (.one (.d .bool r)), []⟩) := by
  kernel_rfl
theorem transomlaw05_KeycodeBack.s4_ev (g8 : Option Bool) (g9 : ByteArray → Option (Int × Int × Int × ByteArray × ByteArray × Int)) (g13 : Int → Int → Int → ByteArray → Int → Int → Int → ByteArray → Option Bool) (g17 : Int → Int → Int → ByteArray → Option Int) (g18 : Int → Int → Int → ByteArray → Option (ByteArray × Int)) (s0 : ByteArray → Bool → Int → Int → Int → ByteArray → Option Bool) (s1 : ByteArray → Int → Int → Int → ByteArray → Option Bool) (s2 : Bool → Option Bool) (s3 : ByteArray → Bool → Option Bool) (s4 : ByteArray → Option Bool) (s5 : ByteArray → Int → Option Bool) (x0 : ByteArray) : evAt (env_transomlaw05_KeycodeBack g8 g9 g13 g17 g18 s0 s1 s2 s3 s4 s5) [1, 1, 1, 1, 1, 1] [5] [.v (.one (.d .str x0))] [] some = transomlaw05_KeycodeBack.s4c g8 g9 g13 g17 g18 s0 s1 s2 s3 s4 s5 x0 (fun r => some ⟨.v (.one (.d .bool r)), []⟩) := by
  kernel_rfl
theorem transomlaw05_KeycodeBack.s5_ev (g8 : Option Bool) (g9 : ByteArray → Option (Int × Int × Int × ByteArray × ByteArray × Int)) (g13 : Int → Int → Int → ByteArray → Int → Int → Int → ByteArray → Option Bool) (g17 : Int → Int → Int → ByteArray → Option Int) (g18 : Int → Int → Int → ByteArray → Option (ByteArray × Int)) (s0 : ByteArray → Bool → Int → Int → Int → ByteArray → Option Bool) (s1 : ByteArray → Int → Int → Int → ByteArray → Option Bool) (s2 : Bool → Option Bool) (s3 : ByteArray → Bool → Option Bool) (s4 : ByteArray → Option Bool) (s5 : ByteArray → Int → Option Bool) (x0 : ByteArray) (x1 : Int) : evAt (env_transomlaw05_KeycodeBack g8 g9 g13 g17 g18 s0 s1 s2 s3 s4 s5) [4, 1, 0, 1, 1, 1, 1, 1, 1] [5, 10] [.v (.one (.d .str x0)), .v (.one (.d (.int .i64) x1))] [] some = transomlaw05_KeycodeBack.s5c g8 g9 g13 g17 g18 s0 s1 s2 s3 s4 s5 x0 x1 (fun r => some ⟨.v (.one (.d .bool r)), []⟩) := by
  kernel_rfl
mutual
def transomlaw05_KeycodeBack.s0 : Nat → ByteArray → Bool → Int → Int → Int → ByteArray → Option Bool
  | 0, _, _, _, _, _, _ => none
  | k + 1, x0, x1, x2, x3, x4, x5 => transomlaw05_KeycodeBack.s0c (transomlaw05_awake.f k) (keycode_Read.f k) (transomref04_Same.f k) (transomlaw04_Few.f k) (keycode_Put.f k) (transomlaw05_KeycodeBack.s0 k) (transomlaw05_KeycodeBack.s1 k) (transomlaw05_KeycodeBack.s2 k) (transomlaw05_KeycodeBack.s3 k) (transomlaw05_KeycodeBack.s4 k) (transomlaw05_KeycodeBack.s5 k) x0 x1 x2 x3 x4 x5 some
def transomlaw05_KeycodeBack.s1 : Nat → ByteArray → Int → Int → Int → ByteArray → Option Bool
  | 0, _, _, _, _, _ => none
  | k + 1, x0, x1, x2, x3, x4 => transomlaw05_KeycodeBack.s1c (transomlaw05_awake.f k) (keycode_Read.f k) (transomref04_Same.f k) (transomlaw04_Few.f k) (keycode_Put.f k) (transomlaw05_KeycodeBack.s0 k) (transomlaw05_KeycodeBack.s1 k) (transomlaw05_KeycodeBack.s2 k) (transomlaw05_KeycodeBack.s3 k) (transomlaw05_KeycodeBack.s4 k) (transomlaw05_KeycodeBack.s5 k) x0 x1 x2 x3 x4 some
def transomlaw05_KeycodeBack.s2 : Nat → Bool → Option Bool
  | 0, _ => none
  | k + 1, x0 => transomlaw05_KeycodeBack.s2c (transomlaw05_awake.f k) (keycode_Read.f k) (transomref04_Same.f k) (transomlaw04_Few.f k) (keycode_Put.f k) (transomlaw05_KeycodeBack.s0 k) (transomlaw05_KeycodeBack.s1 k) (transomlaw05_KeycodeBack.s2 k) (transomlaw05_KeycodeBack.s3 k) (transomlaw05_KeycodeBack.s4 k) (transomlaw05_KeycodeBack.s5 k) x0 some
def transomlaw05_KeycodeBack.s3 : Nat → ByteArray → Bool → Option Bool
  | 0, _, _ => none
  | k + 1, x0, x1 => transomlaw05_KeycodeBack.s3c (transomlaw05_awake.f k) (keycode_Read.f k) (transomref04_Same.f k) (transomlaw04_Few.f k) (keycode_Put.f k) (transomlaw05_KeycodeBack.s0 k) (transomlaw05_KeycodeBack.s1 k) (transomlaw05_KeycodeBack.s2 k) (transomlaw05_KeycodeBack.s3 k) (transomlaw05_KeycodeBack.s4 k) (transomlaw05_KeycodeBack.s5 k) x0 x1 some
def transomlaw05_KeycodeBack.s4 : Nat → ByteArray → Option Bool
  | 0, _ => none
  | k + 1, x0 => transomlaw05_KeycodeBack.s4c (transomlaw05_awake.f k) (keycode_Read.f k) (transomref04_Same.f k) (transomlaw04_Few.f k) (keycode_Put.f k) (transomlaw05_KeycodeBack.s0 k) (transomlaw05_KeycodeBack.s1 k) (transomlaw05_KeycodeBack.s2 k) (transomlaw05_KeycodeBack.s3 k) (transomlaw05_KeycodeBack.s4 k) (transomlaw05_KeycodeBack.s5 k) x0 some
def transomlaw05_KeycodeBack.s5 : Nat → ByteArray → Int → Option Bool
  | 0, _, _ => none
  | k + 1, x0, x1 => transomlaw05_KeycodeBack.s5c (transomlaw05_awake.f k) (keycode_Read.f k) (transomref04_Same.f k) (transomlaw04_Few.f k) (keycode_Put.f k) (transomlaw05_KeycodeBack.s0 k) (transomlaw05_KeycodeBack.s1 k) (transomlaw05_KeycodeBack.s2 k) (transomlaw05_KeycodeBack.s3 k) (transomlaw05_KeycodeBack.s4 k) (transomlaw05_KeycodeBack.s5 k) x0 x1 some
end
def transomlaw05_KeycodeBack.f (k : Nat) (a0 : Int) (a1 : Int) (a2 : Int) (a3 : ByteArray) (a4 : ByteArray) : Option Bool := transomlaw05_KeycodeBack.c (transomlaw05_awake.f k) (keycode_Read.f k) (transomref04_Same.f k) (transomlaw04_Few.f k) (keycode_Put.f k) (transomlaw05_KeycodeBack.s0 k) (transomlaw05_KeycodeBack.s1 k) (transomlaw05_KeycodeBack.s2 k) (transomlaw05_KeycodeBack.s3 k) (transomlaw05_KeycodeBack.s4 k) (transomlaw05_KeycodeBack.s5 k) a0 a1 a2 a3 a4 some
theorem transomlaw05_KeycodeBack.is (g8 : Option Bool) (g9 : ByteArray → Option (Int × Int × Int × ByteArray × ByteArray × Int)) (g13 : Int → Int → Int → ByteArray → Int → Int → Int → ByteArray → Option Bool) (g17 : Int → Int → Int → ByteArray → Option Int) (g18 : Int → Int → Int → ByteArray → Option (ByteArray × Int)) (s0 : ByteArray → Bool → Int → Int → Int → ByteArray → Option Bool) (s1 : ByteArray → Int → Int → Int → ByteArray → Option Bool) (s2 : Bool → Option Bool) (s3 : ByteArray → Bool → Option Bool) (s4 : ByteArray → Option Bool) (s5 : ByteArray → Int → Option Bool) : FnIs (env_transomlaw05_KeycodeBack g8 g9 g13 g17 g18 s0 s1 s2 s3 s4 s5) 5 Go.Proofs.Try.f5 := ⟨Go.Proofs.Try.func5, rfl, rfl, rfl, by decide⟩
theorem transomlaw05_KeycodeBack.envok (g8 : Option Bool) (g9 : ByteArray → Option (Int × Int × Int × ByteArray × ByteArray × Int)) (g13 : Int → Int → Int → ByteArray → Int → Int → Int → ByteArray → Option Bool) (g17 : Int → Int → Int → ByteArray → Option Int) (g18 : Int → Int → Int → ByteArray → Option (ByteArray × Int)) (s0 : ByteArray → Bool → Int → Int → Int → ByteArray → Option Bool) (s1 : ByteArray → Int → Int → Int → ByteArray → Option Bool) (s2 : Bool → Option Bool) (s3 : ByteArray → Bool → Option Bool) (s4 : ByteArray → Option Bool) (s5 : ByteArray → Int → Option Bool) (h8 : CtOK Go.Proofs.Try.prog 8 (ct_transomlaw05_awake g8)) (h9 : CtOK Go.Proofs.Try.prog 9 (ct_keycode_Read g9)) (h13 : CtOK Go.Proofs.Try.prog 13 (ct_transomref04_Same g13)) (h17 : CtOK Go.Proofs.Try.prog 17 (ct_transomlaw04_Few g17)) (h18 : CtOK Go.Proofs.Try.prog 18 (ct_keycode_Put g18)) : EnvOK (env_transomlaw05_KeycodeBack g8 g9 g13 g17 g18 s0 s1 s2 s3 s4 s5).toEnv := by
  intro f c h
  simp only [env_transomlaw05_KeycodeBack] at h
  split at h
  · rename_i e; subst e; cases h; exact h8
  split at h
  · rename_i e; subst e; cases h; exact h9
  split at h
  · rename_i e; subst e; cases h; exact h13
  split at h
  · rename_i e; subst e; cases h; exact h17
  split at h
  · rename_i e; subst e; cases h; exact h18
  simp at h
theorem transomlaw05_KeycodeBack.segs_ok : ∀ k, ∀ s ∈ (env_transomlaw05_KeycodeBack (transomlaw05_awake.f k) (keycode_Read.f k) (transomref04_Same.f k) (transomlaw04_Few.f k) (keycode_Put.f k) (transomlaw05_KeycodeBack.s0 k) (transomlaw05_KeycodeBack.s1 k) (transomlaw05_KeycodeBack.s2 k) (transomlaw05_KeycodeBack.s3 k) (transomlaw05_KeycodeBack.s4 k) (transomlaw05_KeycodeBack.s5 k)).segs, SegOK (env_transomlaw05_KeycodeBack (transomlaw05_awake.f k) (keycode_Read.f k) (transomref04_Same.f k) (transomlaw04_Few.f k) (keycode_Put.f k) (transomlaw05_KeycodeBack.s0 k) (transomlaw05_KeycodeBack.s1 k) (transomlaw05_KeycodeBack.s2 k) (transomlaw05_KeycodeBack.s3 k) (transomlaw05_KeycodeBack.s4 k) (transomlaw05_KeycodeBack.s5 k)) Go.Proofs.Try.f5 s
  | 0 => by
    intro s hs
    simp only [env_transomlaw05_KeycodeBack, List.mem_cons, List.not_mem_nil, or_false] at hs
    rcases hs with rfl | rfl | rfl | rfl | rfl | rfl
    · intro tvs blks res h; exfalso; simp only [seg_transomlaw05_KeycodeBack_0] at h; split at h <;> simp [transomlaw05_KeycodeBack.s0] at h
    · intro tvs blks res h; exfalso; simp only [seg_transomlaw05_KeycodeBack_1] at h; split at h <;> simp [transomlaw05_KeycodeBack.s1] at h
    · intro tvs blks res h; exfalso; simp only [seg_transomlaw05_KeycodeBack_2] at h; split at h <;> simp [transomlaw05_KeycodeBack.s2] at h
    · intro tvs blks res h; exfalso; simp only [seg_transomlaw05_KeycodeBack_3] at h; split at h <;> simp [transomlaw05_KeycodeBack.s3] at h
    · intro tvs blks res h; exfalso; simp only [seg_transomlaw05_KeycodeBack_4] at h; split at h <;> simp [transomlaw05_KeycodeBack.s4] at h
    · intro tvs blks res h; exfalso; simp only [seg_transomlaw05_KeycodeBack_5] at h; split at h <;> simp [transomlaw05_KeycodeBack.s5] at h
  | k + 1 => by
    have ih := transomlaw05_KeycodeBack.segs_ok k
    intro s hs
    simp only [env_transomlaw05_KeycodeBack, List.mem_cons, List.not_mem_nil, or_false] at hs
    rcases hs with rfl | rfl | rfl | rfl | rfl | rfl
    · refine seg_of_ev (E := env_transomlaw05_KeycodeBack (transomlaw05_awake.f k) (keycode_Read.f k) (transomref04_Same.f k) (transomlaw04_Few.f k) (keycode_Put.f k) (transomlaw05_KeycodeBack.s0 k) (transomlaw05_KeycodeBack.s1 k) (transomlaw05_KeycodeBack.s2 k) (transomlaw05_KeycodeBack.s3 k) (transomlaw05_KeycodeBack.s4 k) (transomlaw05_KeycodeBack.s5 k)) (transomlaw05_KeycodeBack.envok _ _ _ _ _ _ _ _ _ _ _  (transomlaw05_awake.ok k) (keycode_Read.ok k) (transomref04_Same.ok k) (transomlaw04_Few.ok k) (keycode_Put.ok k)) ⟨(transomlaw05_KeycodeBack.is (transomlaw05_awake.f k) (keycode_Read.f k) (transomref04_Same.f k) (transomlaw04_Few.f k) (keycode_Put.f k) (transomlaw05_KeycodeBack.s0 k) (transomlaw05_KeycodeBack.s1 k) (transomlaw05_KeycodeBack.s2 k) (transomlaw05_KeycodeBack.s3 k) (transomlaw05_KeycodeBack.s4 k) (transomlaw05_KeycodeBack.s5 k)).rvs⟩ ih ?_
      intro tvs blks res h
      simp only [seg_transomlaw05_KeycodeBack_0] at h
      split at h
      · refine (transomlaw05_KeycodeBack.s0_ev (transomlaw05_awake.f k) (keycode_Read.f k) (transomref04_Same.f k) (transomlaw04_Few.f k) (keycode_Put.f k) (transomlaw05_KeycodeBack.s0 k) (transomlaw05_KeycodeBack.s1 k) (transomlaw05_KeycodeBack.s2 k) (transomlaw05_KeycodeBack.s3 k) (transomlaw05_KeycodeBack.s4 k) (transomlaw05_KeycodeBack.s5 k) _ _ _ _ _ _ ).trans ?_
        rw [transomlaw05_KeycodeBack.s0c_bind]
        exact h
      · simp at h
    · refine seg_of_ev (E := env_transomlaw05_KeycodeBack (transomlaw05_awake.f k) (keycode_Read.f k) (transomref04_Same.f k) (transomlaw04_Few.f k) (keycode_Put.f k) (transomlaw05_KeycodeBack.s0 k) (transomlaw05_KeycodeBack.s1 k) (transomlaw05_KeycodeBack.s2 k) (transomlaw05_KeycodeBack.s3 k) (transomlaw05_KeycodeBack.s4 k) (transomlaw05_KeycodeBack.s5 k)) (transomlaw05_KeycodeBack.envok _ _ _ _ _ _ _ _ _ _ _  (transomlaw05_awake.ok k) (keycode_Read.ok k) (transomref04_Same.ok k) (transomlaw04_Few.ok k) (keycode_Put.ok k)) ⟨(transomlaw05_KeycodeBack.is (transomlaw05_awake.f k) (keycode_Read.f k) (transomref04_Same.f k) (transomlaw04_Few.f k) (keycode_Put.f k) (transomlaw05_KeycodeBack.s0 k) (transomlaw05_KeycodeBack.s1 k) (transomlaw05_KeycodeBack.s2 k) (transomlaw05_KeycodeBack.s3 k) (transomlaw05_KeycodeBack.s4 k) (transomlaw05_KeycodeBack.s5 k)).rvs⟩ ih ?_
      intro tvs blks res h
      simp only [seg_transomlaw05_KeycodeBack_1] at h
      split at h
      · refine (transomlaw05_KeycodeBack.s1_ev (transomlaw05_awake.f k) (keycode_Read.f k) (transomref04_Same.f k) (transomlaw04_Few.f k) (keycode_Put.f k) (transomlaw05_KeycodeBack.s0 k) (transomlaw05_KeycodeBack.s1 k) (transomlaw05_KeycodeBack.s2 k) (transomlaw05_KeycodeBack.s3 k) (transomlaw05_KeycodeBack.s4 k) (transomlaw05_KeycodeBack.s5 k) _ _ _ _ _ ).trans ?_
        rw [transomlaw05_KeycodeBack.s1c_bind]
        exact h
      · simp at h
    · refine seg_of_ev (E := env_transomlaw05_KeycodeBack (transomlaw05_awake.f k) (keycode_Read.f k) (transomref04_Same.f k) (transomlaw04_Few.f k) (keycode_Put.f k) (transomlaw05_KeycodeBack.s0 k) (transomlaw05_KeycodeBack.s1 k) (transomlaw05_KeycodeBack.s2 k) (transomlaw05_KeycodeBack.s3 k) (transomlaw05_KeycodeBack.s4 k) (transomlaw05_KeycodeBack.s5 k)) (transomlaw05_KeycodeBack.envok _ _ _ _ _ _ _ _ _ _ _  (transomlaw05_awake.ok k) (keycode_Read.ok k) (transomref04_Same.ok k) (transomlaw04_Few.ok k) (keycode_Put.ok k)) ⟨(transomlaw05_KeycodeBack.is (transomlaw05_awake.f k) (keycode_Read.f k) (transomref04_Same.f k) (transomlaw04_Few.f k) (keycode_Put.f k) (transomlaw05_KeycodeBack.s0 k) (transomlaw05_KeycodeBack.s1 k) (transomlaw05_KeycodeBack.s2 k) (transomlaw05_KeycodeBack.s3 k) (transomlaw05_KeycodeBack.s4 k) (transomlaw05_KeycodeBack.s5 k)).rvs⟩ ih ?_
      intro tvs blks res h
      simp only [seg_transomlaw05_KeycodeBack_2] at h
      split at h
      · refine (transomlaw05_KeycodeBack.s2_ev (transomlaw05_awake.f k) (keycode_Read.f k) (transomref04_Same.f k) (transomlaw04_Few.f k) (keycode_Put.f k) (transomlaw05_KeycodeBack.s0 k) (transomlaw05_KeycodeBack.s1 k) (transomlaw05_KeycodeBack.s2 k) (transomlaw05_KeycodeBack.s3 k) (transomlaw05_KeycodeBack.s4 k) (transomlaw05_KeycodeBack.s5 k) _ ).trans ?_
        rw [transomlaw05_KeycodeBack.s2c_bind]
        exact h
      · simp at h
    · refine seg_of_ev (E := env_transomlaw05_KeycodeBack (transomlaw05_awake.f k) (keycode_Read.f k) (transomref04_Same.f k) (transomlaw04_Few.f k) (keycode_Put.f k) (transomlaw05_KeycodeBack.s0 k) (transomlaw05_KeycodeBack.s1 k) (transomlaw05_KeycodeBack.s2 k) (transomlaw05_KeycodeBack.s3 k) (transomlaw05_KeycodeBack.s4 k) (transomlaw05_KeycodeBack.s5 k)) (transomlaw05_KeycodeBack.envok _ _ _ _ _ _ _ _ _ _ _  (transomlaw05_awake.ok k) (keycode_Read.ok k) (transomref04_Same.ok k) (transomlaw04_Few.ok k) (keycode_Put.ok k)) ⟨(transomlaw05_KeycodeBack.is (transomlaw05_awake.f k) (keycode_Read.f k) (transomref04_Same.f k) (transomlaw04_Few.f k) (keycode_Put.f k) (transomlaw05_KeycodeBack.s0 k) (transomlaw05_KeycodeBack.s1 k) (transomlaw05_KeycodeBack.s2 k) (transomlaw05_KeycodeBack.s3 k) (transomlaw05_KeycodeBack.s4 k) (transomlaw05_KeycodeBack.s5 k)).rvs⟩ ih ?_
      intro tvs blks res h
      simp only [seg_transomlaw05_KeycodeBack_3] at h
      split at h
      · refine (transomlaw05_KeycodeBack.s3_ev (transomlaw05_awake.f k) (keycode_Read.f k) (transomref04_Same.f k) (transomlaw04_Few.f k) (keycode_Put.f k) (transomlaw05_KeycodeBack.s0 k) (transomlaw05_KeycodeBack.s1 k) (transomlaw05_KeycodeBack.s2 k) (transomlaw05_KeycodeBack.s3 k) (transomlaw05_KeycodeBack.s4 k) (transomlaw05_KeycodeBack.s5 k) _ _ ).trans ?_
        rw [transomlaw05_KeycodeBack.s3c_bind]
        exact h
      · simp at h
    · refine seg_of_ev (E := env_transomlaw05_KeycodeBack (transomlaw05_awake.f k) (keycode_Read.f k) (transomref04_Same.f k) (transomlaw04_Few.f k) (keycode_Put.f k) (transomlaw05_KeycodeBack.s0 k) (transomlaw05_KeycodeBack.s1 k) (transomlaw05_KeycodeBack.s2 k) (transomlaw05_KeycodeBack.s3 k) (transomlaw05_KeycodeBack.s4 k) (transomlaw05_KeycodeBack.s5 k)) (transomlaw05_KeycodeBack.envok _ _ _ _ _ _ _ _ _ _ _  (transomlaw05_awake.ok k) (keycode_Read.ok k) (transomref04_Same.ok k) (transomlaw04_Few.ok k) (keycode_Put.ok k)) ⟨(transomlaw05_KeycodeBack.is (transomlaw05_awake.f k) (keycode_Read.f k) (transomref04_Same.f k) (transomlaw04_Few.f k) (keycode_Put.f k) (transomlaw05_KeycodeBack.s0 k) (transomlaw05_KeycodeBack.s1 k) (transomlaw05_KeycodeBack.s2 k) (transomlaw05_KeycodeBack.s3 k) (transomlaw05_KeycodeBack.s4 k) (transomlaw05_KeycodeBack.s5 k)).rvs⟩ ih ?_
      intro tvs blks res h
      simp only [seg_transomlaw05_KeycodeBack_4] at h
      split at h
      · refine (transomlaw05_KeycodeBack.s4_ev (transomlaw05_awake.f k) (keycode_Read.f k) (transomref04_Same.f k) (transomlaw04_Few.f k) (keycode_Put.f k) (transomlaw05_KeycodeBack.s0 k) (transomlaw05_KeycodeBack.s1 k) (transomlaw05_KeycodeBack.s2 k) (transomlaw05_KeycodeBack.s3 k) (transomlaw05_KeycodeBack.s4 k) (transomlaw05_KeycodeBack.s5 k) _ ).trans ?_
        rw [transomlaw05_KeycodeBack.s4c_bind]
        exact h
      · simp at h
    · refine seg_of_ev (E := env_transomlaw05_KeycodeBack (transomlaw05_awake.f k) (keycode_Read.f k) (transomref04_Same.f k) (transomlaw04_Few.f k) (keycode_Put.f k) (transomlaw05_KeycodeBack.s0 k) (transomlaw05_KeycodeBack.s1 k) (transomlaw05_KeycodeBack.s2 k) (transomlaw05_KeycodeBack.s3 k) (transomlaw05_KeycodeBack.s4 k) (transomlaw05_KeycodeBack.s5 k)) (transomlaw05_KeycodeBack.envok _ _ _ _ _ _ _ _ _ _ _  (transomlaw05_awake.ok k) (keycode_Read.ok k) (transomref04_Same.ok k) (transomlaw04_Few.ok k) (keycode_Put.ok k)) ⟨(transomlaw05_KeycodeBack.is (transomlaw05_awake.f k) (keycode_Read.f k) (transomref04_Same.f k) (transomlaw04_Few.f k) (keycode_Put.f k) (transomlaw05_KeycodeBack.s0 k) (transomlaw05_KeycodeBack.s1 k) (transomlaw05_KeycodeBack.s2 k) (transomlaw05_KeycodeBack.s3 k) (transomlaw05_KeycodeBack.s4 k) (transomlaw05_KeycodeBack.s5 k)).rvs⟩ ih ?_
      intro tvs blks res h
      simp only [seg_transomlaw05_KeycodeBack_5] at h
      split at h
      · refine (transomlaw05_KeycodeBack.s5_ev (transomlaw05_awake.f k) (keycode_Read.f k) (transomref04_Same.f k) (transomlaw04_Few.f k) (keycode_Put.f k) (transomlaw05_KeycodeBack.s0 k) (transomlaw05_KeycodeBack.s1 k) (transomlaw05_KeycodeBack.s2 k) (transomlaw05_KeycodeBack.s3 k) (transomlaw05_KeycodeBack.s4 k) (transomlaw05_KeycodeBack.s5 k) _ _ ).trans ?_
        rw [transomlaw05_KeycodeBack.s5c_bind]
        exact h
      · simp at h
theorem transomlaw05_KeycodeBack.ok (k : Nat) : CtOK Go.Proofs.Try.prog 5 (ct_transomlaw05_KeycodeBack (transomlaw05_KeycodeBack.f k)) := by
  refine ct_of_ev (E := env_transomlaw05_KeycodeBack (transomlaw05_awake.f k) (keycode_Read.f k) (transomref04_Same.f k) (transomlaw04_Few.f k) (keycode_Put.f k) (transomlaw05_KeycodeBack.s0 k) (transomlaw05_KeycodeBack.s1 k) (transomlaw05_KeycodeBack.s2 k) (transomlaw05_KeycodeBack.s3 k) (transomlaw05_KeycodeBack.s4 k) (transomlaw05_KeycodeBack.s5 k)) (transomlaw05_KeycodeBack.is _ _ _ _ _ _ _ _ _ _ _ ) (transomlaw05_KeycodeBack.envok _ _ _ _ _ _ _ _ _ _ _  (transomlaw05_awake.ok k) (keycode_Read.ok k) (transomref04_Same.ok k) (transomlaw04_Few.ok k) (keycode_Put.ok k)) (transomlaw05_KeycodeBack.segs_ok k) rfl ?_
  intro tvs blks res h
  simp only [ct_transomlaw05_KeycodeBack] at h
  split at h
  · refine (transomlaw05_KeycodeBack.ev (transomlaw05_awake.f k) (keycode_Read.f k) (transomref04_Same.f k) (transomlaw04_Few.f k) (keycode_Put.f k) (transomlaw05_KeycodeBack.s0 k) (transomlaw05_KeycodeBack.s1 k) (transomlaw05_KeycodeBack.s2 k) (transomlaw05_KeycodeBack.s3 k) (transomlaw05_KeycodeBack.s4 k) (transomlaw05_KeycodeBack.s5 k) _ _ _ _ _ ).trans ?_
    rw [transomlaw05_KeycodeBack.c_bind]
    exact h
  · simp at h
end Go.Proofs.Ytpcojbnoadnknaa.Aev
