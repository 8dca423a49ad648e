/- By a program of this session (AEV): functions of the program as plain functions, and that the machine does what they say. -/
import Derived.Test.YtchlbajnmhffpaaAevW
import Derived.Test.YtchlbajnmhffpaaProg
import Derived.Laws.Externs
import Derived.Lib.Bytealg
namespace Go.Proofs.Ytchlbajnmhffpaa.Aev
set_option linter.unusedVariables false
set_option linter.unusedSimpArgs false
set_option maxRecDepth 100000
set_option maxHeartbeats 4000000
open Go
/-! ### transomref36_digit: function 24 -/
def ct_transomref36_digit (g : Int → Option ByteArray) : Ct where
  nin := 0
  mv := []
  F := fun tvs blks {β} K => match tvs, blks with
    | [.v (.one (.d (.int .i64) a0))], [] => (g a0).bind fun r => K ⟨.v (.one (.d .str r)), []⟩
    | _, _ => none
  legit := fun tvs blks K r h => by
    split at h
    · obtain ⟨x, hx, hk⟩ := Option.bind_eq_some_iff.1 h
      refine ⟨_, ?_, hk⟩
      simp only [hx, Option.bind_some]
    · simp at h
noncomputable def env_transomref36_digit   : FEnv := { P := Go.Proofs.Try.prog, ct := fun m => none, N := 7, body := Go.Proofs.Try.f24.body.getD .skip, rvs := [.tmp 2], rts := [9], nin := 0, rmv := [], segs := [] }
def transomref36_digit.c {β : Type}   (a0 : Int) (ret : ByteArray → Option β) : Option β := (bif (((decide ((0 : Int) ≤ a0)) && (decide (a0 ≤ (IntKind.wrap IntKind.i64 (a0 + (1 : Int)))))) && (decide ((IntKind.wrap IntKind.i64 (a0 + (1 : Int))) ≤ (16 : Int)))) then (ret ((ByteArray.extract (ByteArray.mk (List.toArray [(48 : UInt8), (49 : UInt8), (50 : UInt8), (51 : UInt8), (52 : UInt8), (53 : UInt8), (54 : UInt8), (55 : UInt8), (56 : UInt8), (57 : UInt8), (97 : UInt8), (98 : UInt8), (99 : UInt8), (100 : UInt8), (101 : UInt8), (102 : UInt8)])) (Int.toNat a0) (Int.toNat (IntKind.wrap IntKind.i64 (a0 + (1 : Int))))))) else none)
theorem transomref36_digit.c_bind {β : Type}   (a0 : Int) (ret : ByteArray → Option β) : transomref36_digit.c   a0 ret = (transomref36_digit.c   a0 some).bind ret := by
  simp only [transomref36_digit.c, bif_bind, sum_bind, Option.bind_assoc, Option.bind_some, Option.bind_none, Option.bind_fun_some]
theorem transomref36_digit.ev   (a0 : Int) : evAt (env_transomref36_digit  ) [] [0] [.v (.one (.d (.int .i64) a0))] [] some = transomref36_digit.c   a0 (fun r => some ⟨.v (.one (.d .str r)), []⟩) := by
  kernel_rfl
def transomref36_digit.f (k : Nat) (a0 : Int) : Option ByteArray := transomref36_digit.c   a0 some
theorem transomref36_digit.is   : FnIs (env_transomref36_digit  ) 24 Go.Proofs.Try.f24 := ⟨Go.Proofs.Try.func24, rfl, rfl, rfl, by decide⟩
theorem transomref36_digit.envok    : EnvOK (env_transomref36_digit  ).toEnv := by
  intro f c h
  simp only [env_transomref36_digit] at h
  simp at h
theorem transomref36_digit.ok (k : Nat) : CtOK Go.Proofs.Try.prog 24 (ct_transomref36_digit (transomref36_digit.f k)) := by
  refine ct_of_ev (E := env_transomref36_digit  ) (transomref36_digit.is ) (transomref36_digit.envok  ) (fun s hs => by simp [env_transomref36_digit] at hs) rfl ?_
  intro tvs blks res h
  simp only [ct_transomref36_digit] at h
  split at h
  · refine (transomref36_digit.ev   _ ).trans ?_
    rw [transomref36_digit.c_bind]
    exact h
  · simp at h

/-! ### transomref36_Quote: function 14 -/
def ct_transomref36_Quote (g : ByteArray → Option ByteArray) : Ct where
  nin := 0
  mv := []
  F := fun tvs blks {β} K => match tvs, blks with
    | [.v (.one (.d .str a0))], [] => (g a0).bind fun r => K ⟨.v (.one (.d .str r)), []⟩
    | _, _ => none
  legit := fun tvs blks K r h => by
    split at h
    · obtain ⟨x, hx, hk⟩ := Option.bind_eq_some_iff.1 h
      refine ⟨_, ?_, hk⟩
      simp only [hx, Option.bind_some]
    · simp at h
def seg_transomref36_Quote_0 (g : ByteArray → ByteArray → Int → Option ByteArray) : Seg where
  path := [4, 1, 0, 1, 1]
  prep := []
  keep := [0, 3, 4]
  F := fun tvs blks {β} K => match tvs, blks with
    | [.v (.one (.d .str x0)), .v (.one (.d .str x1)), .v (.one (.d (.int .i64) x2))], [] => (g x0 x1 x2).bind fun r => K ⟨.v (.one (.d .str r)), []⟩
    | _, _ => none
  legit := fun tvs blks K r h => by
    split at h
    · obtain ⟨x, hx, hk⟩ := Option.bind_eq_some_iff.1 h
      refine ⟨_, ?_, hk⟩
      simp only [hx, Option.bind_some]
    · simp at h
def seg_transomref36_Quote_1 (g : ByteArray → ByteArray → Int → Int → Bool → Option ByteArray) : Seg where
  path := [1, 4, 1, 4, 0, 1, 5, 4, 1, 0, 1, 1]
  prep := []
  keep := [0, 3, 4, 5, 22]
  F := fun tvs blks {β} K => match tvs, blks with
    | [.v (.one (.d .str x0)), .v (.one (.d .str x1)), .v (.one (.d (.int .i64) x2)), .v (.one (.d (.int .u8) x3)), .v (.one (.d .bool x4))], [] => (g x0 x1 x2 x3 x4).bind fun r => K ⟨.v (.one (.d .str r)), []⟩
    | _, _ => none
  legit := fun tvs blks K r h => by
    split at h
    · obtain ⟨x, hx, hk⟩ := Option.bind_eq_some_iff.1 h
      refine ⟨_, ?_, hk⟩
      simp only [hx, Option.bind_some]
    · simp at h
def seg_transomref36_Quote_2 (g : ByteArray → ByteArray → Int → Int → Bool → Option ByteArray) : Seg where
  path := [1, 3, 1, 4, 1, 4, 0, 1, 5, 4, 1, 0, 1, 1]
  prep := []
  keep := [0, 3, 4, 5, 37]
  F := fun tvs blks {β} K => match tvs, blks with
    | [.v (.one (.d .str x0)), .v (.one (.d .str x1)), .v (.one (.d (.int .i64) x2)), .v (.one (.d (.int .u8) x3)), .v (.one (.d .bool x4))], [] => (g x0 x1 x2 x3 x4).bind fun r => K ⟨.v (.one (.d .str r)), []⟩
    | _, _ => none
  legit := fun tvs blks K r h => by
    split at h
    · obtain ⟨x, hx, hk⟩ := Option.bind_eq_some_iff.1 h
      refine ⟨_, ?_, hk⟩
      simp only [hx, Option.bind_some]
    · simp at h
def seg_transomref36_Quote_3 (g : ByteArray → ByteArray → Int → Option ByteArray) : Seg where
  path := [1, 1, 5, 4, 1, 0, 1, 1]
  prep := []
  keep := [0, 3, 4]
  F := fun tvs blks {β} K => match tvs, blks with
    | [.v (.one (.d .str x0)), .v (.one (.d .str x1)), .v (.one (.d (.int .i64) x2))], [] => (g x0 x1 x2).bind fun r => K ⟨.v (.one (.d .str r)), []⟩
    | _, _ => none
  legit := fun tvs blks K r h => by
    split at h
    · obtain ⟨x, hx, hk⟩ := Option.bind_eq_some_iff.1 h
      refine ⟨_, ?_, hk⟩
      simp only [hx, Option.bind_some]
    · simp at h
noncomputable def env_transomref36_Quote (g24 : Int → Option ByteArray) (s0 : ByteArray → ByteArray → Int → Option ByteArray) (s1 : ByteArray → ByteArray → Int → Int → Bool → Option ByteArray) (s2 : ByteArray → ByteArray → Int → Int → Bool → Option ByteArray) (s3 : ByteArray → ByteArray → Int → Option ByteArray) : FEnv := { P := Go.Proofs.Try.prog, ct := fun m => if m = 24 then some (ct_transomref36_digit g24) else none, N := 58, body := Go.Proofs.Try.f14.body.getD .skip, rvs := [.tmp 2], rts := [9], nin := 0, rmv := [], segs := [seg_transomref36_Quote_0 s0, seg_transomref36_Quote_1 s1, seg_transomref36_Quote_2 s2, seg_transomref36_Quote_3 s3] }
def transomref36_Quote.c {β : Type} (g24 : Int → Option ByteArray) (s0 : ByteArray → ByteArray → Int → Option ByteArray) (s1 : ByteArray → ByteArray → Int → Int → Bool → Option ByteArray) (s2 : ByteArray → ByteArray → Int → Int → Bool → Option ByteArray) (s3 : ByteArray → ByteArray → Int → Option ByteArray) (a0 : ByteArray) (ret : ByteArray → Option β) : Option β := ((s0 a0 (ByteArray.mk (List.toArray [(34 : UInt8)])) (0 : Int)).bind ret)
def transomref36_Quote.s0c {β : Type} (g24 : Int → Option ByteArray) (s0 : ByteArray → ByteArray → Int → Option ByteArray) (s1 : ByteArray → ByteArray → Int → Int → Bool → Option ByteArray) (s2 : ByteArray → ByteArray → Int → Int → Bool → Option ByteArray) (s3 : ByteArray → ByteArray → Int → Option ByteArray) (x0 : ByteArray) (x1 : ByteArray) (x2 : Int) (ret : ByteArray → Option β) : Option β := (bif (decide (x2 < ((ByteArray.size x0) : Int))) then (bif ((decide ((0 : Int) ≤ x2)) && (decide (x2 < ((ByteArray.size x0) : Int)))) then (bif ((bt x0 x2) == (34 : Int)) then ((s1 x0 x1 x2 (bt x0 x2) true).bind ret) else ((s1 x0 x1 x2 (bt x0 x2) ((bt x0 x2) == (92 : Int))).bind ret)) else none) else (bif ((decide ((ByteArray.size x1) ≤ (4611686018427387903 : Nat))) && true) then (ret ((x1 ++ (ByteArray.mk (List.toArray [(34 : UInt8)]))))) else none))
def transomref36_Quote.s1c {β : Type} (g24 : Int → Option ByteArray) (s0 : ByteArray → ByteArray → Int → Option ByteArray) (s1 : ByteArray → ByteArray → Int → Int → Bool → Option ByteArray) (s2 : ByteArray → ByteArray → Int → Int → Bool → Option ByteArray) (s3 : ByteArray → ByteArray → Int → Option ByteArray) (x0 : ByteArray) (x1 : ByteArray) (x2 : Int) (x3 : Int) (x4 : Bool) (ret : ByteArray → Option β) : Option β := (bif x4 then (bif ((decide ((ByteArray.size x1) ≤ (4611686018427387903 : Nat))) && true) then (bif (((decide ((0 : Int) ≤ x2)) && (decide (x2 ≤ (IntKind.wrap IntKind.i64 (x2 + (1 : Int)))))) && (decide ((IntKind.wrap IntKind.i64 (x2 + (1 : Int))) ≤ ((ByteArray.size x0) : Int)))) then (bif ((decide ((ByteArray.size (x1 ++ (ByteArray.mk (List.toArray [(92 : UInt8)])))) ≤ (4611686018427387903 : Nat))) && (decide ((ByteArray.size (ByteArray.extract x0 (Int.toNat x2) (Int.toNat (IntKind.wrap IntKind.i64 (x2 + (1 : Int)))))) ≤ (4611686018427387903 : Nat)))) then ((s3 x0 ((x1 ++ (ByteArray.mk (List.toArray [(92 : UInt8)]))) ++ (ByteArray.extract x0 (Int.toNat x2) (Int.toNat (IntKind.wrap IntKind.i64 (x2 + (1 : Int)))))) x2).bind ret) else none) else none) else none) else (bif (decide (x3 < (32 : Int))) then ((s2 x0 x1 x2 x3 true).bind ret) else ((s2 x0 x1 x2 x3 (decide (x3 > (126 : Int)))).bind ret)))
def transomref36_Quote.s2c {β : Type} (g24 : Int → Option ByteArray) (s0 : ByteArray → ByteArray → Int → Option ByteArray) (s1 : ByteArray → ByteArray → Int → Int → Bool → Option ByteArray) (s2 : ByteArray → ByteArray → Int → Int → Bool → Option ByteArray) (s3 : ByteArray → ByteArray → Int → Option ByteArray) (x0 : ByteArray) (x1 : ByteArray) (x2 : Int) (x3 : Int) (x4 : Bool) (ret : ByteArray → Option β) : Option β := (bif x4 then (bif ((decide ((ByteArray.size x1) ≤ (4611686018427387903 : Nat))) && true) then ((g24 (IntKind.wrap IntKind.i64 (IntKind.wrap IntKind.u8 (Int.tdiv x3 (16 : Int))))).bind fun r0 => (bif ((decide ((ByteArray.size (x1 ++ (ByteArray.mk (List.toArray [(92 : UInt8), (120 : UInt8)])))) ≤ (4611686018427387903 : Nat))) && (decide ((ByteArray.size r0) ≤ (4611686018427387903 : Nat)))) then ((g24 (IntKind.wrap IntKind.i64 (Int.tmod x3 (16 : Int)))).bind fun r1 => (bif ((decide ((ByteArray.size ((x1 ++ (ByteArray.mk (List.toArray [(92 : UInt8), (120 : UInt8)]))) ++ r0)) ≤ (4611686018427387903 : Nat))) && (decide ((ByteArray.size r1) ≤ (4611686018427387903 : Nat)))) then ((s3 x0 (((x1 ++ (ByteArray.mk (List.toArray [(92 : UInt8), (120 : UInt8)]))) ++ r0) ++ r1) x2).bind ret) else none)) else none)) else none) else (bif (((decide ((0 : Int) ≤ x2)) && (decide (x2 ≤ (IntKind.wrap IntKind.i64 (x2 + (1 : Int)))))) && (decide ((IntKind.wrap IntKind.i64 (x2 + (1 : Int))) ≤ ((ByteArray.size x0) : Int)))) then (bif ((decide ((ByteArray.size x1) ≤ (4611686018427387903 : Nat))) && (decide ((ByteArray.size (ByteArray.extract x0 (Int.toNat x2) (Int.toNat (IntKind.wrap IntKind.i64 (x2 + (1 : Int)))))) ≤ (4611686018427387903 : Nat)))) then ((s3 x0 (x1 ++ (ByteArray.extract x0 (Int.toNat x2) (Int.toNat (IntKind.wrap IntKind.i64 (x2 + (1 : Int)))))) x2).bind ret) else none) else none))
def transomref36_Quote.s3c {β : Type} (g24 : Int → Option ByteArray) (s0 : ByteArray → ByteArray → Int → Option ByteArray) (s1 : ByteArray → ByteArray → Int → Int → Bool → Option ByteArray) (s2 : ByteArray → ByteArray → Int → Int → Bool → Option ByteArray) (s3 : ByteArray → ByteArray → Int → Option ByteArray) (x0 : ByteArray) (x1 : ByteArray) (x2 : Int) (ret : ByteArray → Option β) : Option β := ((s0 x0 x1 (IntKind.wrap IntKind.i64 (x2 + (1 : Int)))).bind ret)
theorem transomref36_Quote.c_bind {β : Type} (g24 : Int → Option ByteArray) (s0 : ByteArray → ByteArray → Int → Option ByteArray) (s1 : ByteArray → ByteArray → Int → Int → Bool → Option ByteArray) (s2 : ByteArray → ByteArray → Int → Int → Bool → Option ByteArray) (s3 : ByteArray → ByteArray → Int → Option ByteArray) (a0 : ByteArray) (ret : ByteArray → Option β) : transomref36_Quote.c g24 s0 s1 s2 s3 a0 ret = (transomref36_Quote.c g24 s0 s1 s2 s3 a0 some).bind ret := by
  simp only [transomref36_Quote.c, bif_bind, sum_bind, Option.bind_assoc, Option.bind_some, Option.bind_none, Option.bind_fun_some]
theorem transomref36_Quote.s0c_bind {β : Type} (g24 : Int → Option ByteArray) (s0 : ByteArray → ByteArray → Int → Option ByteArray) (s1 : ByteArray → ByteArray → Int → Int → Bool → Option ByteArray) (s2 : ByteArray → ByteArray → Int → Int → Bool → Option ByteArray) (s3 : ByteArray → ByteArray → Int → Option ByteArray) (x0 : ByteArray) (x1 : ByteArray) (x2 : Int) (ret : ByteArray → Option β) : transomref36_Quote.s0c g24 s0 s1 s2 s3 x0 x1 x2 ret = (transomref36_Quote.s0c g24 s0 s1 s2 s3 x0 x1 x2 some).bind ret := by
  simp only [transomref36_Quote.s0c, bif_bind, sum_bind, Option.bind_assoc, Option.bind_some, Option.bind_none, Option.bind_fun_some]
theorem transomref36_Quote.s1c_bind {β : Type} (g24 : Int → Option ByteArray) (s0 : ByteArray → ByteArray → Int → Option ByteArray) (s1 : ByteArray → ByteArray → Int → Int → Bool → Option ByteArray) (s2 : ByteArray → ByteArray → Int → Int → Bool → Option ByteArray) (s3 : ByteArray → ByteArray → Int → Option ByteArray) (x0 : ByteArray) (x1 : ByteArray) (x2 : Int) (x3 : Int) (x4 : Bool) (ret : ByteArray → Option β) : transomref36_Quote.s1c g24 s0 s1 s2 s3 x0 x1 x2 x3 x4 ret = (transomref36_Quote.s1c g24 s0 s1 s2 s3 x0 x1 x2 x3 x4 some).bind ret := by
  simp only [transomref36_Quote.s1c, bif_bind, sum_bind, Option.bind_assoc, Option.bind_some, Option.bind_none, Option.bind_fun_some]
theorem transomref36_Quote.s2c_bind {β : Type} (g24 : Int → Option ByteArray) (s0 : ByteArray → ByteArray → Int → Option ByteArray) (s1 : ByteArray → ByteArray → Int → Int → Bool → Option ByteArray) (s2 : ByteArray → ByteArray → Int → Int → Bool → Option ByteArray) (s3 : ByteArray → ByteArray → Int → Option ByteArray) (x0 : ByteArray) (x1 : ByteArray) (x2 : Int) (x3 : Int) (x4 : Bool) (ret : ByteArray → Option β) : transomref36_Quote.s2c g24 s0 s1 s2 s3 x0 x1 x2 x3 x4 ret = (transomref36_Quote.s2c g24 s0 s1 s2 s3 x0 x1 x2 x3 x4 some).bind ret := by
  simp only [transomref36_Quote.s2c, bif_bind, sum_bind, Option.bind_assoc, Option.bind_some, Option.bind_none, Option.bind_fun_some]
theorem transomref36_Quote.s3c_bind {β : Type} (g24 : Int → Option ByteArray) (s0 : ByteArray → ByteArray → Int → Option ByteArray) (s1 : ByteArray → ByteArray → Int → Int → Bool → Option ByteArray) (s2 : ByteArray → ByteArray → Int → Int → Bool → Option ByteArray) (s3 : ByteArray → ByteArray → Int → Option ByteArray) (x0 : ByteArray) (x1 : ByteArray) (x2 : Int) (ret : ByteArray → Option β) : transomref36_Quote.s3c g24 s0 s1 s2 s3 x0 x1 x2 ret = (transomref36_Quote.s3c g24 s0 s1 s2 s3 x0 x1 x2 some).bind ret := by
  simp only [transomref36_Quote.s3c, bif_bind, sum_bind, Option.bind_assoc, Option.bind_some, Option.bind_none, Option.bind_fun_some]
theorem transomref36_Quote.ev (g24 : Int → Option ByteArray) (s0 : ByteArray → ByteArray → Int → Option ByteArray) (s1 : ByteArray → ByteArray → Int → Int → Bool → Option ByteArray) (s2 : ByteArray → ByteArray → Int → Int → Bool → Option ByteArray) (s3 : ByteArray → ByteArray → Int → Option ByteArray) (a0 : ByteArray) : evAt (env_transomref36_Quote g24 s0 s1 s2 s3) [] [0] [.v (.one (.d .str a0))] [] some = transomref36_Quote.c g24 s0 s1 s2 s3 a0 (fun r => some ⟨.v (.one (.d .str r)), []⟩) := by
  kernel_rfl
theorem transomref36_Quote.s0_ev (g24 : Int → Option ByteArray) (s0 : ByteArray → ByteArray → Int → Option ByteArray) (s1 : ByteArray → ByteArray → Int → Int → Bool → Option ByteArray) (s2 : ByteArray → ByteArray → Int → Int → Bool → Option ByteArray) (s3 : ByteArray → ByteArray → Int → Option ByteArray) (x0 : ByteArray) (x1 : ByteArray) (x2 : Int) : evAt (env_transomref36_Quote g24 s0 s1 s2 s3) [4, 1, 0, 1, 1] [0, 3, 4] [.v (.one (.d .str x0)), .v (.one (.d .str x1)), .v (.one (.d (.int .i64) x2))] [] some = transomref36_Quote.s0c g24 s0 s1 s2 s3 x0 x1 x2 (fun r => some ⟨.v (.one (.d .str r)), []⟩) := by
  kernel_rfl
theorem transomref36_Quote.s1_ev (g24 : Int → Option ByteArray) (s0 : ByteArray → ByteArray → Int → Option ByteArray) (s1 : ByteArray → ByteArray → Int → Int → Bool → Option ByteArray) (s2 : ByteArray → ByteArray → Int → Int → Bool → Option ByteArray) (s3 : ByteArray → ByteArray → Int → Option ByteArray) (x0 : ByteArray) (x1 : ByteArray) (x2 : Int) (x3 : Int) (x4 : Bool) : evAt (env_transomref36_Quote g24 s0 s1 s2 s3) [1, 4, 1, 4, 0, 1, 5, 4, 1, 0, 1, 1] [0, 3, 4, 5, 22] [.v (.one (.d .str x0)), .v (.one (.d .str x1)), .v (.one (.d (.int .i64) x2)), .v (.one (.d (.int .u8) x3)), .v (.one (.d .bool x4))] [] some = transomref36_Quote.s1c g24 s0 s1 s2 s3 x0 x1 x2 x3 x4 (fun r => some ⟨.v (.one (.d .str r)), []⟩) := by
  kernel_rfl
theorem transomref36_Quote.s2_ev (g24 : Int → Option ByteArray) (s0 : ByteArray → ByteArray → Int → Option ByteArray) (s1 : ByteArray → ByteArray → Int → Int → Bool → Option ByteArray) (s2 : ByteArray → ByteArray → Int → Int → Bool → Option ByteArray) (s3 : ByteArray → ByteArray → Int → Option ByteArray) (x0 : ByteArray) (x1 : ByteArray) (x2 : Int) (x3 : Int) (x4 : Bool) : evAt (env_transomref36_Quote g24 s0 s1 s2 s3) [1, 3, 1, 4, 1, 4, 0, 1, 5, 4, 1, 0, 1, 1] [0, 3, 4, 5, 37] [.v (.one (.d .str x0)), .v (.one (.d .str x1)), .v (.one (.d (.int .i64) x2)), .v (.one (.d (.int .u8) x3)), .v (.one (.d .bool x4))] [] some = transomref36_Quote.s2c g24 s0 s1 s2 s3 x0 x1 x2 x3 x4 (fun r => some ⟨.v (.one (.d .str r)), []⟩) := by
  kernel_rfl
theorem transomref36_Quote.s3_ev (g24 : Int → Option ByteArray) (s0 : ByteArray → ByteArray → Int → Option ByteArray) (s1 : ByteArray → ByteArray → Int → Int → Bool → Option ByteArray) (s2 : ByteArray → ByteArray → Int → Int → Bool → Option ByteArray) (s3 : ByteArray → ByteArray → Int → Option ByteArray) (x0 : ByteArray) (x1 : ByteArray) (x2 : Int) : evAt (env_transomref36_Quote g24 s0 s1 s2 s3) [1, 1, 5, 4, 1, 0, 1, 1] [0, 3, 4] [.v (.one (.d .str x0)), .v (.one (.d .str x1)), .v (.one (.d (.int .i64) x2))] [] some = transomref36_Quote.s3c g24 s0 s1 s2 s3 x0 x1 x2 (fun r => some ⟨.v (.one (.d .str r)), []⟩) := by
  kernel_rfl
mutual
def transomref36_Quote.s0 : Nat → ByteArray → ByteArray → Int → Option ByteArray
  | 0, _, _, _ => none
  | k + 1, x0, x1, x2 => transomref36_Quote.s0c (transomref36_digit.f k) (transomref36_Quote.s0 k) (transomref36_Quote.s1 k) (transomref36_Quote.s2 k) (transomref36_Quote.s3 k) x0 x1 x2 some
def transomref36_Quote.s1 : Nat → ByteArray → ByteArray → Int → Int → Bool → Option ByteArray
  | 0, _, _, _, _, _ => none
  | k + 1, x0, x1, x2, x3, x4 => transomref36_Quote.s1c (transomref36_digit.f k) (transomref36_Quote.s0 k) (transomref36_Quote.s1 k) (transomref36_Quote.s2 k) (transomref36_Quote.s3 k) x0 x1 x2 x3 x4 some
def transomref36_Quote.s2 : Nat → ByteArray → ByteArray → Int → Int → Bool → Option ByteArray
  | 0, _, _, _, _, _ => none
  | k + 1, x0, x1, x2, x3, x4 => transomref36_Quote.s2c (transomref36_digit.f k) (transomref36_Quote.s0 k) (transomref36_Quote.s1 k) (transomref36_Quote.s2 k) (transomref36_Quote.s3 k) x0 x1 x2 x3 x4 some
def transomref36_Quote.s3 : Nat → ByteArray → ByteArray → Int → Option ByteArray
  | 0, _, _, _ => none
  | k + 1, x0, x1, x2 => transomref36_Quote.s3c (transomref36_digit.f k) (transomref36_Quote.s0 k) (transomref36_Quote.s1 k) (transomref36_Quote.s2 k) (transomref36_Quote.s3 k) x0 x1 x2 some
end
def transomref36_Quote.f (k : Nat) (a0 : ByteArray) : Option ByteArray := transomref36_Quote.c (transomref36_digit.f k) (transomref36_Quote.s0 k) (transomref36_Quote.s1 k) (transomref36_Quote.s2 k) (transomref36_Quote.s3 k) a0 some
theorem transomref36_Quote.is (g24 : Int → Option ByteArray) (s0 : ByteArray → ByteArray → Int → Option ByteArray) (s1 : ByteArray → ByteArray → Int → Int → Bool → Option ByteArray) (s2 : ByteArray → ByteArray → Int → Int → Bool → Option ByteArray) (s3 : ByteArray → ByteArray → Int → Option ByteArray) : FnIs (env_transomref36_Quote g24 s0 s1 s2 s3) 14 Go.Proofs.Try.f14 := ⟨Go.Proofs.Try.func14, rfl, rfl, rfl, by decide⟩
theorem transomref36_Quote.envok (g24 : Int → Option ByteArray) (s0 : ByteArray → ByteArray → Int → Option ByteArray) (s1 : ByteArray → ByteArray → Int → Int → Bool → Option ByteArray) (s2 : ByteArray → ByteArray → Int → Int → Bool → Option ByteArray) (s3 : ByteArray → ByteArray → Int → Option ByteArray) (h24 : CtOK Go.Proofs.Try.prog 24 (ct_transomref36_digit g24)) : EnvOK (env_transomref36_Quote g24 s0 s1 s2 s3).toEnv := by
  intro f c h
  simp only [env_transomref36_Quote] at h
  split at h
  · rename_i e; subst e; cases h; exact h24
  simp at h
theorem transomref36_Quote.segs_ok : ∀ k, ∀ s ∈ (env_transomref36_Quote (transomref36_digit.f k) (transomref36_Quote.s0 k) (transomref36_Quote.s1 k) (transomref36_Quote.s2 k) (transomref36_Quote.s3 k)).segs, SegOK (env_transomref36_Quote (transomref36_digit.f k) (transomref36_Quote.s0 k) (transomref36_Quote.s1 k) (transomref36_Quote.s2 k) (transomref36_Quote.s3 k)) Go.Proofs.Try.f14 s
  | 0 => by
    intro s hs
    simp only [env_transomref36_Quote, List.mem_cons, List.not_mem_nil, or_false] at hs
    rcases hs with rfl | rfl | rfl | rfl
    · intro tvs blks res h; exfalso; simp only [seg_transomref36_Quote_0] at h; split at h <;> simp [transomref36_Quote.s0] at h
    · intro tvs blks res h; exfalso; simp only [seg_transomref36_Quote_1] at h; split at h <;> simp [transomref36_Quote.s1] at h
    · intro tvs blks res h; exfalso; simp only [seg_transomref36_Quote_2] at h; split at h <;> simp [transomref36_Quote.s2] at h
    · intro tvs blks res h; exfalso; simp only [seg_transomref36_Quote_3] at h; split at h <;> simp [transomref36_Quote.s3] at h
  | k + 1 => by
    have ih := transomref36_Quote.segs_ok k
    intro s hs
    simp only [env_transomref36_Quote, List.mem_cons, List.not_mem_nil, or_false] at hs
    rcases hs with rfl | rfl | rfl | rfl
    · refine seg_of_ev (E := env_transomref36_Quote (transomref36_digit.f k) (transomref36_Quote.s0 k) (transomref36_Quote.s1 k) (transomref36_Quote.s2 k) (transomref36_Quote.s3 k)) (transomref36_Quote.envok _ _ _ _ _  (transomref36_digit.ok k)) ⟨(transomref36_Quote.is (transomref36_digit.f k) (transomref36_Quote.s0 k) (transomref36_Quote.s1 k) (transomref36_Quote.s2 k) (transomref36_Quote.s3 k)).rvs⟩ ih ?_
      intro tvs blks res h
      simp only [seg_transomref36_Quote_0] at h
      split at h
      · refine (transomref36_Quote.s0_ev (transomref36_digit.f k) (transomref36_Quote.s0 k) (transomref36_Quote.s1 k) (transomref36_Quote.s2 k) (transomref36_Quote.s3 k) _ _ _ ).trans ?_
        rw [transomref36_Quote.s0c_bind]
        exact h
      · simp at h
    · refine seg_of_ev (E := env_transomref36_Quote (transomref36_digit.f k) (transomref36_Quote.s0 k) (transomref36_Quote.s1 k) (transomref36_Quote.s2 k) (transomref36_Quote.s3 k)) (transomref36_Quote.envok _ _ _ _ _  (transomref36_digit.ok k)) ⟨(transomref36_Quote.is (transomref36_digit.f k) (transomref36_Quote.s0 k) (transomref36_Quote.s1 k) (transomref36_Quote.s2 k) (transomref36_Quote.s3 k)).rvs⟩ ih ?_
      intro tvs blks res h
      simp only [seg_transomref36_Quote_1] at h
      split at h
      · refine (transomref36_Quote.s1_ev (transomref36_digit.f k) (transomref36_Quote.s0 k) (transomref36_Quote.s1 k) (transomref36_Quote.s2 k) (transomref36_Quote.s3 k) _ _ _ _ _ ).trans ?_
        rw [transomref36_Quote.s1c_bind]
        exact h
      · simp at h
    · refine seg_of_ev (E := env_transomref36_Quote (transomref36_digit.f k) (transomref36_Quote.s0 k) (transomref36_Quote.s1 k) (transomref36_Quote.s2 k) (transomref36_Quote.s3 k)) (transomref36_Quote.envok _ _ _ _ _  (transomref36_digit.ok k)) ⟨(transomref36_Quote.is (transomref36_digit.f k) (transomref36_Quote.s0 k) (transomref36_Quote.s1 k) (transomref36_Quote.s2 k) (transomref36_Quote.s3 k)).rvs⟩ ih ?_
      intro tvs blks res h
      simp only [seg_transomref36_Quote_2] at h
      split at h
      · refine (transomref36_Quote.s2_ev (transomref36_digit.f k) (transomref36_Quote.s0 k) (transomref36_Quote.s1 k) (transomref36_Quote.s2 k) (transomref36_Quote.s3 k) _ _ _ _ _ ).trans ?_
        rw [transomref36_Quote.s2c_bind]
        exact h
      · simp at h
    · refine seg_of_ev (E := env_transomref36_Quote (transomref36_digit.f k) (transomref36_Quote.s0 k) (transomref36_Quote.s1 k) (transomref36_Quote.s2 k) (transomref36_Quote.s3 k)) (transomref36_Quote.envok _ _ _ _ _  (transomref36_digit.ok k)) ⟨(transomref36_Quote.is (transomref36_digit.f k) (transomref36_Quote.s0 k) (transomref36_Quote.s1 k) (transomref36_Quote.s2 k) (transomref36_Quote.s3 k)).rvs⟩ ih ?_
      intro tvs blks res h
      simp only [seg_transomref36_Quote_3] at h
      split at h
      · refine (transomref36_Quote.s3_ev (transomref36_digit.f k) (transomref36_Quote.s0 k) (transomref36_Quote.s1 k) (transomref36_Quote.s2 k) (transomref36_Quote.s3 k) _ _ _ ).trans ?_
        rw [transomref36_Quote.s3c_bind]
        exact h
      · simp at h
theorem transomref36_Quote.ok (k : Nat) : CtOK Go.Proofs.Try.prog 14 (ct_transomref36_Quote (transomref36_Quote.f k)) := by
  refine ct_of_ev (E := env_transomref36_Quote (transomref36_digit.f k) (transomref36_Quote.s0 k) (transomref36_Quote.s1 k) (transomref36_Quote.s2 k) (transomref36_Quote.s3 k)) (transomref36_Quote.is _ _ _ _ _ ) (transomref36_Quote.envok _ _ _ _ _  (transomref36_digit.ok k)) (transomref36_Quote.segs_ok k) rfl ?_
  intro tvs blks res h
  simp only [ct_transomref36_Quote] at h
  split at h
  · refine (transomref36_Quote.ev (transomref36_digit.f k) (transomref36_Quote.s0 k) (transomref36_Quote.s1 k) (transomref36_Quote.s2 k) (transomref36_Quote.s3 k) _ ).trans ?_
    rw [transomref36_Quote.c_bind]
    exact h
  · simp at h

/-! ### transomref36_value: function 23 -/
def ct_transomref36_value (g : Int → Option Int) : Ct where
  nin := 0
  mv := []
  F := fun tvs blks {β} K => match tvs, blks with
    | [.v (.one (.d (.int .u8) a0))], [] => (g a0).bind fun r => K ⟨.v (.one (.d (.int .i64) r)), []⟩
    | _, _ => none
  legit := fun tvs blks K r h => by
    split at h
    · obtain ⟨x, hx, hk⟩ := Option.bind_eq_some_iff.1 h
      refine ⟨_, ?_, hk⟩
      simp only [hx, Option.bind_some]
    · simp at h
def seg_transomref36_value_0 (g : Int → Bool → Option Int) : Seg where
  path := [1, 4, 0, 1]
  prep := []
  keep := [0, 3]
  F := fun tvs blks {β} K => match tvs, blks with
    | [.v (.one (.d (.int .u8) x0)), .v (.one (.d .bool x1))], [] => (g x0 x1).bind fun r => K ⟨.v (.one (.d (.int .i64) r)), []⟩
    | _, _ => none
  legit := fun tvs blks K r h => by
    split at h
    · obtain ⟨x, hx, hk⟩ := Option.bind_eq_some_iff.1 h
      refine ⟨_, ?_, hk⟩
      simp only [hx, Option.bind_some]
    · simp at h
noncomputable def env_transomref36_value  (s0 : Int → Bool → Option Int) : FEnv := { P := Go.Proofs.Try.prog, ct := fun m => none, N := 24, body := Go.Proofs.Try.f23.body.getD .skip, rvs := [.tmp 2], rts := [3], nin := 0, rmv := [], segs := [seg_transomref36_value_0 s0] }
def transomref36_value.c {β : Type}  (s0 : Int → Bool → Option Int) (a0 : Int) (ret : Int → Option β) : Option β := (bif (decide (a0 ≥ (48 : Int))) then ((s0 a0 (decide (a0 ≤ (57 : Int)))).bind ret) else ((s0 a0 false).bind ret))
def transomref36_value.s0c {β : Type}  (s0 : Int → Bool → Option Int) (x0 : Int) (x1 : Bool) (ret : Int → Option β) : Option β := (bif x1 then (ret ((IntKind.wrap IntKind.i64 (IntKind.wrap IntKind.u8 (x0 - (48 : Int)))))) else (bif (decide (x0 ≥ (97 : Int))) then (bif (decide (x0 ≤ (102 : Int))) then (ret ((IntKind.wrap IntKind.i64 ((IntKind.wrap IntKind.i64 (IntKind.wrap IntKind.u8 (x0 - (97 : Int)))) + (10 : Int))))) else (ret ((-1 : Int)))) else (ret ((-1 : Int)))))
theorem transomref36_value.c_bind {β : Type}  (s0 : Int → Bool → Option Int) (a0 : Int) (ret : Int → Option β) : transomref36_value.c  s0 a0 ret = (transomref36_value.c  s0 a0 some).bind ret := by
  simp only [transomref36_value.c, bif_bind, sum_bind, Option.bind_assoc, Option.bind_some, Option.bind_none, Option.bind_fun_some]
theorem transomref36_value.s0c_bind {β : Type}  (s0 : Int → Bool → Option Int) (x0 : Int) (x1 : Bool) (ret : Int → Option β) : transomref36_value.s0c  s0 x0 x1 ret = (transomref36_value.s0c  s0 x0 x1 some).bind ret := by
  simp only [transomref36_value.s0c, bif_bind, sum_bind, Option.bind_assoc, Option.bind_some, Option.bind_none, Option.bind_fun_some]
theorem transomref36_value.ev  (s0 : Int → Bool → Option Int) (a0 : Int) : evAt (env_transomref36_value  s0) [] [0] [.v (.one (.d (.int .u8) a0))] [] some = transomref36_value.c  s0 a0 (fun r => some ⟨.v (.one (.d (.int .i64) r)), []⟩) := by
  kernel_rfl
theorem transomref36_value.s0_ev  (s0 : Int → Bool → Option Int) (x0 : Int) (x1 : Bool) : evAt (env_transomref36_value  s0) [1, 4, 0, 1] [0, 3] [.v (.one (.d (.int .u8) x0)), .v (.one (.d .bool x1))] [] some = transomref36_value.s0c  s0 x0 x1 (fun r => some ⟨.v (.one (.d (.int .i64) r)), []⟩) := by
  kernel_rfl
def transomref36_value.s0 : Nat → Int → Bool → Option Int
  | 0, _, _ => none
  | k + 1, x0, x1 => transomref36_value.s0c  (transomref36_value.s0 k) x0 x1 some
def transomref36_value.f (k : Nat) (a0 : Int) : Option Int := transomref36_value.c  (transomref36_value.s0 k) a0 some
theorem transomref36_value.is  (s0 : Int → Bool → Option Int) : FnIs (env_transomref36_value  s0) 23 Go.Proofs.Try.f23 := ⟨Go.Proofs.Try.func23, rfl, rfl, rfl, by decide⟩
theorem transomref36_value.envok  (s0 : Int → Bool → Option Int)  : EnvOK (env_transomref36_value  s0).toEnv := by
  intro f c h
  simp only [env_transomref36_value] at h
  simp at h
theorem transomref36_value.segs_ok : ∀ k, ∀ s ∈ (env_transomref36_value  (transomref36_value.s0 k)).segs, SegOK (env_transomref36_value  (transomref36_value.s0 k)) Go.Proofs.Try.f23 s
  | 0 => by
    intro s hs
    simp only [env_transomref36_value, List.mem_cons, List.not_mem_nil, or_false] at hs
    rcases hs with rfl
    · intro tvs blks res h; exfalso; simp only [seg_transomref36_value_0] at h; split at h <;> simp [transomref36_value.s0] at h
  | k + 1 => by
    have ih := transomref36_value.segs_ok k
    intro s hs
    simp only [env_transomref36_value, List.mem_cons, List.not_mem_nil, or_false] at hs
    rcases hs with rfl
    · refine seg_of_ev (E := env_transomref36_value  (transomref36_value.s0 k)) (transomref36_value.envok _  ) ⟨(transomref36_value.is  (transomref36_value.s0 k)).rvs⟩ ih ?_
      intro tvs blks res h
      simp only [seg_transomref36_value_0] at h
      split at h
      · refine (transomref36_value.s0_ev  (transomref36_value.s0 k) _ _ ).trans ?_
        rw [transomref36_value.s0c_bind]
        exact h
      · simp at h
theorem transomref36_value.ok (k : Nat) : CtOK Go.Proofs.Try.prog 23 (ct_transomref36_value (transomref36_value.f k)) := by
  refine ct_of_ev (E := env_transomref36_value  (transomref36_value.s0 k)) (transomref36_value.is _ ) (transomref36_value.envok _  ) (transomref36_value.segs_ok k) rfl ?_
  intro tvs blks res h
  simp only [ct_transomref36_value] at h
  split at h
  · refine (transomref36_value.ev  (transomref36_value.s0 k) _ ).trans ?_
    rw [transomref36_value.c_bind]
    exact h
  · simp at h
end Go.Proofs.Ytchlbajnmhffpaa.Aev
