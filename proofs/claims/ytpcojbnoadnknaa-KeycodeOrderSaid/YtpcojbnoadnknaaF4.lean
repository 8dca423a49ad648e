/- By a program of this session (AEV): functions of the program as plain functions, and that the machine does what they say. -/
import Derived.Test.YtpcojbnoadnknaaAevW
import Derived.Test.YtpcojbnoadnknaaProg
import Derived.Laws.Externs
import Derived.Lib.Bytealg
import Derived.Test.YtpcojbnoadnknaaF3
namespace Go.Proofs.Ytpcojbnoadnknaa.Aev
set_option linter.unusedVariables false
set_option linter.unusedSimpArgs false
set_option maxRecDepth 100000
set_option maxHeartbeats 4000000
open Go
/-! ### transomref02_Class: function 59 -/
def ct_transomref02_Class (g : Int → Option Int) : Ct where
  nin := 0
  mv := []
  F := fun tvs blks {β} K => match tvs, blks with
    | [.v (.one (.d (.int .u64) a0))], [] => (g a0).bind fun r => K ⟨.v (.one (.d (.int .i64) r)), []⟩
    | _, _ => none
  legit := fun tvs blks K r h => by
    split at h
    · obtain ⟨x, hx, hk⟩ := Option.bind_eq_some_iff.1 h
      refine ⟨_, ?_, hk⟩
      simp only [hx, Option.bind_some]
    · simp at h
def seg_transomref02_Class_0 (g : Int → Bool → Option Int) : Seg where
  path := [1, 4, 0, 1]
  prep := []
  keep := [0, 3]
  F := fun tvs blks {β} K => match tvs, blks with
    | [.v (.one (.d (.int .u64) x0)), .v (.one (.d .bool x1))], [] => (g x0 x1).bind fun r => K ⟨.v (.one (.d (.int .i64) r)), []⟩
    | _, _ => none
  legit := fun tvs blks K r h => by
    split at h
    · obtain ⟨x, hx, hk⟩ := Option.bind_eq_some_iff.1 h
      refine ⟨_, ?_, hk⟩
      simp only [hx, Option.bind_some]
    · simp at h
noncomputable def env_transomref02_Class (g64 : Int → Option Int) (g65 : Int → Option Int) (s0 : Int → Bool → Option Int) : FEnv := { P := Go.Proofs.Try.prog, ct := fun m => if m = 64 then some (ct_transomref02_exponent g64) else if m = 65 then some (ct_transomref02_fraction g65) else none, N := 29, body := Go.Proofs.Try.f59.body.getD .skip, rvs := [.tmp 2], rts := [3], nin := 0, rmv := [], segs := [seg_transomref02_Class_0 s0] }
def transomref02_Class.c {β : Type} (g64 : Int → Option Int) (g65 : Int → Option Int) (s0 : Int → Bool → Option Int) (a0 : Int) (ret : Int → Option β) : Option β := ((g64 a0).bind fun r0 => (bif (r0 == (2047 : Int)) then ((g65 a0).bind fun r1 => ((s0 a0 (r1 != (0 : Int))).bind ret)) else ((s0 a0 false).bind ret)))
def transomref02_Class.s0c {β : Type} (g64 : Int → Option Int) (g65 : Int → Option Int) (s0 : Int → Bool → Option Int) (x0 : Int) (x1 : Bool) (ret : Int → Option β) : Option β := (bif x1 then (ret ((1 : Int))) else ((g64 x0).bind fun r0 => (bif (r0 == (2047 : Int)) then (ret ((2 : Int))) else ((g64 x0).bind fun r1 => (bif (r1 == (0 : Int)) then ((g65 x0).bind fun r2 => (bif (r2 == (0 : Int)) then (ret ((3 : Int))) else ((g64 x0).bind fun r3 => (bif (r3 == (0 : Int)) then (ret ((4 : Int))) else (ret ((5 : Int))))))) else ((g64 x0).bind fun r4 => (bif (r4 == (0 : Int)) then (ret ((4 : Int))) else (ret ((5 : Int))))))))))
theorem transomref02_Class.c_bind {β : Type} (g64 : Int → Option Int) (g65 : Int → Option Int) (s0 : Int → Bool → Option Int) (a0 : Int) (ret : Int → Option β) : transomref02_Class.c g64 g65 s0 a0 ret = (transomref02_Class.c g64 g65 s0 a0 some).bind ret := by
  simp only [transomref02_Class.c, bif_bind, sum_bind, Option.bind_assoc, Option.bind_some, Option.bind_none, Option.bind_fun_some]
theorem transomref02_Class.s0c_bind {β : Type} (g64 : Int → Option Int) (g65 : Int → Option Int) (s0 : Int → Bool → Option Int) (x0 : Int) (x1 : Bool) (ret : Int → Option β) : transomref02_Class.s0c g64 g65 s0 x0 x1 ret = (transomref02_Class.s0c g64 g65 s0 x0 x1 some).bind ret := by
  simp only [transomref02_Class.s0c, bif_bind, sum_bind, Option.bind_assoc, Option.bind_some, Option.bind_none, Option.bind_fun_some]
theorem transomref02_Class.ev (g64 : Int → Option Int) (g65 : Int → Option Int) (s0 : Int → Bool → Option Int) (a0 : Int) : evAt (env_transomref02_Class g64 g65 s0) [] [0] [.v (.one (.d (.int .u64) a0))] [] some = transomref02_Class.c g64 g65 s0 a0 (fun r => some ⟨.v (.one (.d (.int .i64) r)), []⟩) := by
  kernel_rfl
theorem transomref02_Class.s0_ev (g64 : Int → Option Int) (g65 : Int → Option Int) (s0 : Int → Bool → Option Int) (x0 : Int) (x1 : Bool) : evAt (env_transomref02_Class g64 g65 s0) [1, 4, 0, 1] [0, 3] [.v (.one (.d (.int .u64) x0)), .v (.one (.d .bool x1))] [] some = transomref02_Class.s0c g64 g65 s0 x0 x1 (fun r => some ⟨.v (.one (.d (.int .i64) r)), []⟩) := by
  kernel_rfl
def transomref02_Class.s0 : Nat → Int → Bool → Option Int
  | 0, _, _ => none
  | k + 1, x0, x1 => transomref02_Class.s0c (transomref02_exponent.f k) (transomref02_fraction.f k) (transomref02_Class.s0 k) x0 x1 some
def transomref02_Class.f (k : Nat) (a0 : Int) : Option Int := transomref02_Class.c (transomref02_exponent.f k) (transomref02_fraction.f k) (transomref02_Class.s0 k) a0 some
theorem transomref02_Class.is (g64 : Int → Option Int) (g65 : Int → Option Int) (s0 : Int → Bool → Option Int) : FnIs (env_transomref02_Class g64 g65 s0) 59 Go.Proofs.Try.f59 := ⟨Go.Proofs.Try.func59, rfl, rfl, rfl, by decide⟩
theorem transomref02_Class.envok (g64 : Int → Option Int) (g65 : Int → Option Int) (s0 : Int → Bool → Option Int) (h64 : CtOK Go.Proofs.Try.prog 64 (ct_transomref02_exponent g64)) (h65 : CtOK Go.Proofs.Try.prog 65 (ct_transomref02_fraction g65)) : EnvOK (env_transomref02_Class g64 g65 s0).toEnv := by
  intro f c h
  simp only [env_transomref02_Class] at h
  split at h
  · rename_i e; subst e; cases h; exact h64
  split at h
  · rename_i e; subst e; cases h; exact h65
  simp at h
theorem transomref02_Class.segs_ok : ∀ k, ∀ s ∈ (env_transomref02_Class (transomref02_exponent.f k) (transomref02_fraction.f k) (transomref02_Class.s0 k)).segs, SegOK (env_transomref02_Class (transomref02_exponent.f k) (transomref02_fraction.f k) (transomref02_Class.s0 k)) Go.Proofs.Try.f59 s
  | 0 => by
    intro s hs
    simp only [env_transomref02_Class, List.mem_cons, List.not_mem_nil, or_false] at hs
    rcases hs with rfl
    · intro tvs blks res h; exfalso; simp only [seg_transomref02_Class_0] at h; split at h <;> simp [transomref02_Class.s0] at h
  | k + 1 => by
    have ih := transomref02_Class.segs_ok k
    intro s hs
    simp only [env_transomref02_Class, List.mem_cons, List.not_mem_nil, or_false] at hs
    rcases hs with rfl
    · refine seg_of_ev (E := env_transomref02_Class (transomref02_exponent.f k) (transomref02_fraction.f k) (transomref02_Class.s0 k)) (transomref02_Class.envok _ _ _  (transomref02_exponent.ok k) (transomref02_fraction.ok k)) ⟨(transomref02_Class.is (transomref02_exponent.f k) (transomref02_fraction.f k) (transomref02_Class.s0 k)).rvs⟩ ih ?_
      intro tvs blks res h
      simp only [seg_transomref02_Class_0] at h
      split at h
      · refine (transomref02_Class.s0_ev (transomref02_exponent.f k) (transomref02_fraction.f k) (transomref02_Class.s0 k) _ _ ).trans ?_
        rw [transomref02_Class.s0c_bind]
        exact h
      · simp at h
theorem transomref02_Class.ok (k : Nat) : CtOK Go.Proofs.Try.prog 59 (ct_transomref02_Class (transomref02_Class.f k)) := by
  refine ct_of_ev (E := env_transomref02_Class (transomref02_exponent.f k) (transomref02_fraction.f k) (transomref02_Class.s0 k)) (transomref02_Class.is _ _ _ ) (transomref02_Class.envok _ _ _  (transomref02_exponent.ok k) (transomref02_fraction.ok k)) (transomref02_Class.segs_ok k) rfl ?_
  intro tvs blks res h
  simp only [ct_transomref02_Class] at h
  split at h
  · refine (transomref02_Class.ev (transomref02_exponent.f k) (transomref02_fraction.f k) (transomref02_Class.s0 k) _ ).trans ?_
    rw [transomref02_Class.c_bind]
    exact h
  · simp at h

/-! ### transomref02_Canon: function 49 -/
def ct_transomref02_Canon (g : Int → Option Int) : Ct where
  nin := 0
  mv := []
  F := fun tvs blks {β} K => match tvs, blks with
    | [.v (.one (.d (.int .u64) a0))], [] => (g a0).bind fun r => K ⟨.v (.one (.d (.int .u64) r)), []⟩
    | _, _ => none
  legit := fun tvs blks K r h => by
    split at h
    · obtain ⟨x, hx, hk⟩ := Option.bind_eq_some_iff.1 h
      refine ⟨_, ?_, hk⟩
      simp only [hx, Option.bind_some]
    · simp at h
noncomputable def env_transomref02_Canon (g59 : Int → Option Int)  : FEnv := { P := Go.Proofs.Try.prog, ct := fun m => if m = 59 then some (ct_transomref02_Class g59) else none, N := 7, body := Go.Proofs.Try.f49.body.getD .skip, rvs := [.tmp 2], rts := [23], nin := 0, rmv := [], segs := [] }
def transomref02_Canon.c {β : Type} (g59 : Int → Option Int)  (a0 : Int) (ret : Int → Option β) : Option β := ((g59 a0).bind fun r0 => (bif (r0 == (1 : Int)) then (ret ((9221120237041090560 : Int))) else (ret (a0))))
theorem transomref02_Canon.c_bind {β : Type} (g59 : Int → Option Int)  (a0 : Int) (ret : Int → Option β) : transomref02_Canon.c g59  a0 ret = (transomref02_Canon.c g59  a0 some).bind ret := by
  simp only [transomref02_Canon.c, bif_bind, sum_bind, Option.bind_assoc, Option.bind_some, Option.bind_none, Option.bind_fun_some]
theorem transomref02_Canon.ev (g59 : Int → Option Int)  (a0 : Int) : evAt (env_transomref02_Canon g59 ) [] [0] [.v (.one (.d (.int .u64) a0))] [] some = transomref02_Canon.c g59  a0 (fun r => some ⟨.v (.one (.d (.int .u64) r)), []⟩) := by
  kernel_rfl
def transomref02_Canon.f (k : Nat) (a0 : Int) : Option Int := transomref02_Canon.c (transomref02_Class.f k)  a0 some
theorem transomref02_Canon.is (g59 : Int → Option Int)  : FnIs (env_transomref02_Canon g59 ) 49 Go.Proofs.Try.f49 := ⟨Go.Proofs.Try.func49, rfl, rfl, rfl, by decide⟩
theorem transomref02_Canon.envok (g59 : Int → Option Int)  (h59 : CtOK Go.Proofs.Try.prog 59 (ct_transomref02_Class g59)) : EnvOK (env_transomref02_Canon g59 ).toEnv := by
  intro f c h
  simp only [env_transomref02_Canon] at h
  split at h
  · rename_i e; subst e; cases h; exact h59
  simp at h
theorem transomref02_Canon.ok (k : Nat) : CtOK Go.Proofs.Try.prog 49 (ct_transomref02_Canon (transomref02_Canon.f k)) := by
  refine ct_of_ev (E := env_transomref02_Canon (transomref02_Class.f k) ) (transomref02_Canon.is _ ) (transomref02_Canon.envok _  (transomref02_Class.ok k)) (fun s hs => by simp [env_transomref02_Canon] at hs) rfl ?_
  intro tvs blks res h
  simp only [ct_transomref02_Canon] at h
  split at h
  · refine (transomref02_Canon.ev (transomref02_Class.f k)  _ ).trans ?_
    rw [transomref02_Canon.c_bind]
    exact h
  · simp at h

/-! ### transomref02_Back: function 32 -/
def ct_transomref02_Back (g : Int → Option (Int × Bool)) : Ct where
  nin := 0
  mv := []
  F := fun tvs blks {β} K => match tvs, blks with
    | [.v (.one (.d (.int .u64) a0))], [] => (g a0).bind fun r => K ⟨.tup [(.one (.d (.int .u64) r.1)), (.one (.d .bool r.2))], []⟩
    | _, _ => none
  legit := fun tvs blks K r h => by
    split at h
    · obtain ⟨x, hx, hk⟩ := Option.bind_eq_some_iff.1 h
      refine ⟨_, ?_, hk⟩
      simp only [hx, Option.bind_some]
    · simp at h
noncomputable def env_transomref02_Back (g49 : Int → Option Int)  : FEnv := { P := Go.Proofs.Try.prog, ct := fun m => if m = 49 then some (ct_transomref02_Canon g49) else none, N := 17, body := Go.Proofs.Try.f32.body.getD .skip, rvs := [.tmp 2, .tmp 3], rts := [23, 4], nin := 0, rmv := [], segs := [] }
def transomref02_Back.c {β : Type} (g49 : Int → Option Int)  (a0 : Int) (ret : (Int × Bool) → Option β) : Option β := (bif ((Int.fdiv a0 (9223372036854775808 : Int)) == (1 : Int)) then ((g49 (IntKind.wrap IntKind.u64 ((BitVec.toNat ((BitVec.ofInt (64 : Nat) a0) &&& (BitVec.ofInt (64 : Nat) (9223372036854775807 : Int)))) : Int))).bind fun r0 => (bif (r0 != (IntKind.wrap IntKind.u64 ((BitVec.toNat ((BitVec.ofInt (64 : Nat) a0) &&& (BitVec.ofInt (64 : Nat) (9223372036854775807 : Int)))) : Int))) then (ret ((0 : Int), false)) else (ret ((IntKind.wrap IntKind.u64 ((BitVec.toNat ((BitVec.ofInt (64 : Nat) a0) &&& (BitVec.ofInt (64 : Nat) (9223372036854775807 : Int)))) : Int)), true)))) else ((g49 (IntKind.wrap IntKind.u64 ((BitVec.toNat ((BitVec.ofInt (64 : Nat) (18446744073709551615 : Int)) ^^^ (BitVec.ofInt (64 : Nat) a0))) : Int))).bind fun r1 => (bif (r1 != (IntKind.wrap IntKind.u64 ((BitVec.toNat ((BitVec.ofInt (64 : Nat) (18446744073709551615 : Int)) ^^^ (BitVec.ofInt (64 : Nat) a0))) : Int))) then (ret ((0 : Int), false)) else (ret ((IntKind.wrap IntKind.u64 ((BitVec.toNat ((BitVec.ofInt (64 : Nat) (18446744073709551615 : Int)) ^^^ (BitVec.ofInt (64 : Nat) a0))) : Int)), true)))))
theorem transomref02_Back.c_bind {β : Type} (g49 : Int → Option Int)  (a0 : Int) (ret : (Int × Bool) → Option β) : transomref02_Back.c g49  a0 ret = (transomref02_Back.c g49  a0 some).bind ret := by
  simp only [transomref02_Back.c, bif_bind, sum_bind, Option.bind_assoc, Option.bind_some, Option.bind_none, Option.bind_fun_some]
theorem transomref02_Back.ev (g49 : Int → Option Int)  (a0 : Int) : evAt (env_transomref02_Back g49 ) [] [0] [.v (.one (.d (.int .u64) a0))] [] some = transomref02_Back.c g49  a0 (fun r => some ⟨.tup [(.one (.d (.int .u64) r.1)), (.one (.d .bool r.2))], []⟩) := by
  kernel_rfl
def transomref02_Back.f (k : Nat) (a0 : Int) : Option (Int × Bool) := transomref02_Back.c (transomref02_Canon.f k)  a0 some
theorem transomref02_Back.is (g49 : Int → Option Int)  : FnIs (env_transomref02_Back g49 ) 32 Go.Proofs.Try.f32 := ⟨Go.Proofs.Try.func32, rfl, rfl, rfl, by decide⟩
theorem transomref02_Back.envok (g49 : Int → Option Int)  (h49 : CtOK Go.Proofs.Try.prog 49 (ct_transomref02_Canon g49)) : EnvOK (env_transomref02_Back g49 ).toEnv := by
  intro f c h
  simp only [env_transomref02_Back] at h
  split at h
  · rename_i e; subst e; cases h; exact h49
  simp at h
theorem transomref02_Back.ok (k : Nat) : CtOK Go.Proofs.Try.prog 32 (ct_transomref02_Back (transomref02_Back.f k)) := by
  refine ct_of_ev (E := env_transomref02_Back (transomref02_Canon.f k) ) (transomref02_Back.is _ ) (transomref02_Back.envok _  (transomref02_Canon.ok k)) (fun s hs => by simp [env_transomref02_Back] at hs) rfl ?_
  intro tvs blks res h
  simp only [ct_transomref02_Back] at h
  split at h
  · refine (transomref02_Back.ev (transomref02_Canon.f k)  _ ).trans ?_
    rw [transomref02_Back.c_bind]
    exact h
  · simp at h

/-! ### transomref05_plain: function 33 -/
def ct_transomref05_plain (g : ByteArray → Option (ByteArray × ByteArray × Int)) : Ct where
  nin := 0
  mv := []
  F := fun tvs blks {β} K => match tvs, blks with
    | [.v (.one (.d .str a0))], [] => (g a0).bind fun r => K ⟨.tup [(.one (.d .str r.1)), (.one (.d .str r.2.1)), (.one (.d (.int .i64) r.2.2))], []⟩
    | _, _ => none
  legit := fun tvs blks K r h => by
    split at h
    · obtain ⟨x, hx, hk⟩ := Option.bind_eq_some_iff.1 h
      refine ⟨_, ?_, hk⟩
      simp only [hx, Option.bind_some]
    · simp at h
def seg_transomref05_plain_0 (g : ByteArray → Int → (List Int) → Option (ByteArray × ByteArray × Int)) : Seg where
  path := [4, 1, 0, 1, 1]
  prep := [.own 5 (.int .u8)]
  keep := [0, 5, 6]
  F := fun tvs blks {β} K => match tvs, blks with
    | [.v (.one (.d .str x0)), .v (.one (.own 0)), .v (.one (.d (.int .i64) x1))], [some (.own (.int .u8) false x2)] => (g x0 x1 x2).bind fun r => K ⟨.tup [(.one (.d .str r.1)), (.one (.d .str r.2.1)), (.one (.d (.int .i64) r.2.2))], []⟩
    | _, _ => none
  legit := fun tvs blks K r h => by
    split at h
    · obtain ⟨x, hx, hk⟩ := Option.bind_eq_some_iff.1 h
      refine ⟨_, ?_, hk⟩
      simp only [hx, Option.bind_some]
    · simp at h
def seg_transomref05_plain_1 (g : ByteArray → Int → (List Int) → Option (ByteArray × ByteArray × Int)) : Seg where
  path := [1, 1, 5, 4, 1, 0, 1, 1]
  prep := []
  keep := [0, 5, 6]
  F := fun tvs blks {β} K => match tvs, blks with
    | [.v (.one (.d .str x0)), .v (.one (.own 0)), .v (.one (.d (.int .i64) x1))], [some (.own (.int .u8) false x2)] => (g x0 x1 x2).bind fun r => K ⟨.tup [(.one (.d .str r.1)), (.one (.d .str r.2.1)), (.one (.d (.int .i64) r.2.2))], []⟩
    | _, _ => none
  legit := fun tvs blks K r h => by
    split at h
    · obtain ⟨x, hx, hk⟩ := Option.bind_eq_some_iff.1 h
      refine ⟨_, ?_, hk⟩
      simp only [hx, Option.bind_some]
    · simp at h
noncomputable def env_transomref05_plain  (s0 : ByteArray → Int → (List Int) → Option (ByteArray × ByteArray × Int)) (s1 : ByteArray → Int → (List Int) → Option (ByteArray × ByteArray × Int)) : FEnv := { P := Go.Proofs.Try.prog, ct := fun m => none, N := 49, body := Go.Proofs.Try.f33.body.getD .skip, rvs := [.tmp 2, .tmp 3, .tmp 4], rts := [9, 9, 3], nin := 0, rmv := [], segs := [seg_transomref05_plain_0 s0, seg_transomref05_plain_1 s1] }
def transomref05_plain.c {β : Type}  (s0 : ByteArray → Int → (List Int) → Option (ByteArray × ByteArray × Int)) (s1 : ByteArray → Int → (List Int) → Option (ByteArray × ByteArray × Int)) (a0 : ByteArray) (ret : (ByteArray × ByteArray × Int) → Option β) : Option β := ((s0 a0 (0 : Int) []).bind ret)
def transomref05_plain.s0c {β : Type}  (s0 : ByteArray → Int → (List Int) → Option (ByteArray × ByteArray × Int)) (s1 : ByteArray → Int → (List Int) → Option (ByteArray × ByteArray × Int)) (x0 : ByteArray) (x1 : Int) (x2 : List Int) (ret : (ByteArray × ByteArray × Int) → Option β) : Option β := (bif (decide (x1 < ((ByteArray.size x0) : Int))) then (bif ((decide ((0 : Int) ≤ x1)) && (decide (x1 < ((ByteArray.size x0) : Int)))) then (bif ((bt x0 x1) != (0 : Int)) then (bif ((decide ((0 : Int) ≤ x1)) && (decide (x1 < ((ByteArray.size x0) : Int)))) then (bif (decide ((((List.length x2) + (1 : Nat)) * (1 : Nat)) ≤ (35184372088832 : Nat))) then ((s1 x0 x1 (x2 ++ [(bt x0 x1)])).bind ret) else none) else none) else (bif ((IntKind.wrap IntKind.i64 (x1 + (1 : Int))) == ((ByteArray.size x0) : Int)) then (ret ((ByteArray.mk (List.toArray [])), (ByteArray.mk (List.toArray [])), (3 : Int))) else (bif ((decide ((0 : Int) ≤ (IntKind.wrap IntKind.i64 (x1 + (1 : Int))))) && (decide ((IntKind.wrap IntKind.i64 (x1 + (1 : Int))) < ((ByteArray.size x0) : Int)))) then (bif ((bt x0 (IntKind.wrap IntKind.i64 (x1 + (1 : Int)))) == (0 : Int)) then (bif (((decide ((0 : Int) ≤ (IntKind.wrap IntKind.i64 (x1 + (2 : Int))))) && (decide ((IntKind.wrap IntKind.i64 (x1 + (2 : Int))) ≤ ((ByteArray.size x0) : Int)))) && (decide (((ByteArray.size x0) : Int) ≤ ((ByteArray.size x0) : Int)))) then (ret ((ByteArray.mk (List.toArray (List.map (fun n => (UInt8.ofNat (Int.toNat n))) x2))), (ByteArray.extract x0 (Int.toNat (IntKind.wrap IntKind.i64 (x1 + (2 : Int)))) (Int.toNat ((ByteArray.size x0) : Int))), (0 : Int))) else none) else (bif ((decide ((0 : Int) ≤ (IntKind.wrap IntKind.i64 (x1 + (1 : Int))))) && (decide ((IntKind.wrap IntKind.i64 (x1 + (1 : Int))) < ((ByteArray.size x0) : Int)))) then (bif ((bt x0 (IntKind.wrap IntKind.i64 (x1 + (1 : Int)))) != (255 : Int)) then (ret ((ByteArray.mk (List.toArray [])), (ByteArray.mk (List.toArray [])), (4 : Int))) else (bif (decide ((((List.length x2) + (1 : Nat)) * (1 : Nat)) ≤ (35184372088832 : Nat))) then ((s1 x0 (IntKind.wrap IntKind.i64 (x1 + (1 : Int))) (x2 ++ [(0 : Int)])).bind ret) else none)) else none)) else none))) else none) else (ret ((ByteArray.mk (List.toArray [])), (ByteArray.mk (List.toArray [])), (3 : Int))))
def transomref05_plain.s1c {β : Type}  (s0 : ByteArray → Int → (List Int) → Option (ByteArray × ByteArray × Int)) (s1 : ByteArray → Int → (List Int) → Option (ByteArray × ByteArray × Int)) (x0 : ByteArray) (x1 : Int) (x2 : List Int) (ret : (ByteArray × ByteArray × Int) → Option β) : Option β := ((s0 x0 (IntKind.wrap IntKind.i64 (x1 + (1 : Int))) x2).bind ret)
theorem transomref05_plain.c_bind {β : Type}  (s0 : ByteArray → Int → (List Int) → Option (ByteArray × ByteArray × Int)) (s1 : ByteArray → Int → (List Int) → Option (ByteArray × ByteArray × Int)) (a0 : ByteArray) (ret : (ByteArray × ByteArray × Int) → Option β) : transomref05_plain.c  s0 s1 a0 ret = (transomref05_plain.c  s0 s1 a0 some).bind ret := by
  simp only [transomref05_plain.c, bif_bind, sum_bind, Option.bind_assoc, Option.bind_some, Option.bind_none, Option.bind_fun_some]
theorem transomref05_plain.s0c_bind {β : Type}  (s0 : ByteArray → Int → (List Int) → Option (ByteArray × ByteArray × Int)) (s1 : ByteArray → Int → (List Int) → Option (ByteArray × ByteArray × Int)) (x0 : ByteArray) (x1 : Int) (x2 : List Int) (ret : (ByteArray × ByteArray × Int) → Option β) : transomref05_plain.s0c  s0 s1 x0 x1 x2 ret = (transomref05_plain.s0c  s0 s1 x0 x1 x2 some).bind ret := by
  simp only [transomref05_plain.s0c, bif_bind, sum_bind, Option.bind_assoc, Option.bind_some, Option.bind_none, Option.bind_fun_some]
theorem transomref05_plain.s1c_bind {β : Type}  (s0 : ByteArray → Int → (List Int) → Option (ByteArray × ByteArray × Int)) (s1 : ByteArray → Int → (List Int) → Option (ByteArray × ByteArray × Int)) (x0 : ByteArray) (x1 : Int) (x2 : List Int) (ret : (ByteArray × ByteArray × Int) → Option β) : transomref05_plain.s1c  s0 s1 x0 x1 x2 ret = (transomref05_plain.s1c  s0 s1 x0 x1 x2 some).bind ret := by
  simp only [transomref05_plain.s1c, bif_bind, sum_bind, Option.bind_assoc, Option.bind_some, Option.bind_none, Option.bind_fun_some]
theorem transomref05_plain.ev  (s0 : ByteArray → Int → (List Int) → Option (ByteArray × ByteArray × Int)) (s1 : ByteArray → Int → (List Int) → Option (ByteArray × ByteArray × Int)) (a0 : ByteArray) : evAt (env_transomref05_plain  s0 s1) [] [0] [.v (.one (.d .str a0))] [] some = transomref05_plain.c  s0 s1 a0 (fun r => some ⟨.tup [(.one (.d .str r.1)), (.one (.d .str r.2.1)), (.one (.d (.int .i64) r.2.2))], []⟩) := by
  kernel_rfl
theorem transomref05_plain.s0_ev  (s0 : ByteArray → Int → (List Int) → Option (ByteArray × ByteArray × Int)) (s1 : ByteArray → Int → (List Int) → Option (ByteArray × ByteArray × Int)) (x0 : ByteArray) (x1 : Int) (x2 : List Int) : evAt (env_transomref05_plain  s0 s1) [4, 1, 0, 1, 1] [0, 5, 6] [.v (.one (.d .str x0)), .v (.one (.own 0)), .v (.one (.d (.int .i64) x1))] [some (.own (.int .u8) false x2)] some = transomref05_plain.s0c  s0 s1 x0 x1 x2 (fun r => some ⟨.tup [(.one (.d .str r.1)), (.one (.d .str r.2.1)), (.one (.d (.int .i64) r.2.2))], []⟩) := by
  kernel_rfl
theorem transomref05_plain.s1_ev  (s0 : ByteArray → Int → (List Int) → Option (ByteArray × ByteArray × Int)) (s1 : ByteArray → Int → (List Int) → Option (ByteArray × ByteArray × Int)) (x0 : ByteArray) (x1 : Int) (x2 : List Int) : evAt (env_transomref05_plain  s0 s1) [1, 1, 5, 4, 1, 0, 1, 1] [0, 5, 6] [.v (.one (.d .str x0)), .v (.one (.own 0)), .v (.one (.d (.int .i64) x1))] [some (.own (.int .u8) false x2)] some = transomref05_plain.s1c  s0 s1 x0 x1 x2 (fun r => some ⟨.tup [(.one (.d .str r.1)), (.one (.d .str r.2.1)), (.one (.d (.int .i64) r.2.2))], []⟩) := by
  kernel_rfl
mutual
def transomref05_plain.s0 : Nat → ByteArray → Int → (List Int) → Option (ByteArray × ByteArray × Int)
  | 0, _, _, _ => none
  | k + 1, x0, x1, x2 => transomref05_plain.s0c  (transomref05_plain.s0 k) (transomref05_plain.s1 k) x0 x1 x2 some
def transomref05_plain.s1 : Nat → ByteArray → Int → (List Int) → Option (ByteArray × ByteArray × Int)
  | 0, _, _, _ => none
  | k + 1, x0, x1, x2 => transomref05_plain.s1c  (transomref05_plain.s0 k) (transomref05_plain.s1 k) x0 x1 x2 some
end
def transomref05_plain.f (k : Nat) (a0 : ByteArray) : Option (ByteArray × ByteArray × Int) := transomref05_plain.c  (transomref05_plain.s0 k) (transomref05_plain.s1 k) a0 some
theorem transomref05_plain.is  (s0 : ByteArray → Int → (List Int) → Option (ByteArray × ByteArray × Int)) (s1 : ByteArray → Int → (List Int) → Option (ByteArray × ByteArray × Int)) : FnIs (env_transomref05_plain  s0 s1) 33 Go.Proofs.Try.f33 := ⟨Go.Proofs.Try.func33, rfl, rfl, rfl, by decide⟩
theorem transomref05_plain.envok  (s0 : ByteArray → Int → (List Int) → Option (ByteArray × ByteArray × Int)) (s1 : ByteArray → Int → (List Int) → Option (ByteArray × ByteArray × Int))  : EnvOK (env_transomref05_plain  s0 s1).toEnv := by
  intro f c h
  simp only [env_transomref05_plain] at h
  simp at h
theorem transomref05_plain.segs_ok : ∀ k, ∀ s ∈ (env_transomref05_plain  (transomref05_plain.s0 k) (transomref05_plain.s1 k)).segs, SegOK (env_transomref05_plain  (transomref05_plain.s0 k) (transomref05_plain.s1 k)) Go.Proofs.Try.f33 s
  | 0 => by
    intro s hs
    simp only [env_transomref05_plain, List.mem_cons, List.not_mem_nil, or_false] at hs
    rcases hs with rfl | rfl
    · intro tvs blks res h; exfalso; simp only [seg_transomref05_plain_0] at h; split at h <;> simp [transomref05_plain.s0] at h
    · intro tvs blks res h; exfalso; simp only [seg_transomref05_plain_1] at h; split at h <;> simp [transomref05_plain.s1] at h
  | k + 1 => by
    have ih := transomref05_plain.segs_ok k
    intro s hs
    simp only [env_transomref05_plain, List.mem_cons, List.not_mem_nil, or_false] at hs
    rcases hs with rfl | rfl
    · refine seg_of_ev (E := env_transomref05_plain  (transomref05_plain.s0 k) (transomref05_plain.s1 k)) (transomref05_plain.envok _ _  ) ⟨(transomref05_plain.is  (transomref05_plain.s0 k) (transomref05_plain.s1 k)).rvs⟩ ih ?_
      intro tvs blks res h
      simp only [seg_transomref05_plain_0] at h
      split at h
      · refine (transomref05_plain.s0_ev  (transomref05_plain.s0 k) (transomref05_plain.s1 k) _ _ _ ).trans ?_
        rw [transomref05_plain.s0c_bind]
        exact h
      · simp at h
    · refine seg_of_ev (E := env_transomref05_plain  (transomref05_plain.s0 k) (transomref05_plain.s1 k)) (transomref05_plain.envok _ _  ) ⟨(transomref05_plain.is  (transomref05_plain.s0 k) (transomref05_plain.s1 k)).rvs⟩ ih ?_
      intro tvs blks res h
      simp only [seg_transomref05_plain_1] at h
      split at h
      · refine (transomref05_plain.s1_ev  (transomref05_plain.s0 k) (transomref05_plain.s1 k) _ _ _ ).trans ?_
        rw [transomref05_plain.s1c_bind]
        exact h
      · simp at h
theorem transomref05_plain.ok (k : Nat) : CtOK Go.Proofs.Try.prog 33 (ct_transomref05_plain (transomref05_plain.f k)) := by
  refine ct_of_ev (E := env_transomref05_plain  (transomref05_plain.s0 k) (transomref05_plain.s1 k)) (transomref05_plain.is _ _ ) (transomref05_plain.envok _ _  ) (transomref05_plain.segs_ok k) rfl ?_
  intro tvs blks res h
  simp only [ct_transomref05_plain] at h
  split at h
  · refine (transomref05_plain.ev  (transomref05_plain.s0 k) (transomref05_plain.s1 k) _ ).trans ?_
    rw [transomref05_plain.c_bind]
    exact h
  · simp at h

/-! ### transomref01_lead: function 68 -/
def ct_transomref01_lead (g : Int → Option (Int × Int)) : Ct where
  nin := 0
  mv := []
  F := fun tvs blks {β} K => match tvs, blks with
    | [.v (.one (.d (.int .i64) a0))], [] => (g a0).bind fun r => K ⟨.tup [(.one (.d (.int .i64) r.1)), (.one (.d (.int .i64) r.2))], []⟩
    | _, _ => none
  legit := fun tvs blks K r h => by
    split at h
    · obtain ⟨x, hx, hk⟩ := Option.bind_eq_some_iff.1 h
      refine ⟨_, ?_, hk⟩
      simp only [hx, Option.bind_some]
    · simp at h
def seg_transomref01_lead_0 (g : Int → Bool → Option (Int × Int)) : Seg where
  path := [1, 3, 1, 4, 0, 1]
  prep := []
  keep := [0, 8]
  F := fun tvs blks {β} K => match tvs, blks with
    | [.v (.one (.d (.int .i64) x0)), .v (.one (.d .bool x1))], [] => (g x0 x1).bind fun r => K ⟨.tup [(.one (.d (.int .i64) r.1)), (.one (.d (.int .i64) r.2))], []⟩
    | _, _ => none
  legit := fun tvs blks K r h => by
    split at h
    · obtain ⟨x, hx, hk⟩ := Option.bind_eq_some_iff.1 h
      refine ⟨_, ?_, hk⟩
      simp only [hx, Option.bind_some]
    · simp at h
def seg_transomref01_lead_1 (g : Int → Bool → Option (Int × Int)) : Seg where
  path := [1, 3, 1, 3, 1, 4, 0, 1]
  prep := []
  keep := [0, 17]
  F := fun tvs blks {β} K => match tvs, blks with
    | [.v (.one (.d (.int .i64) x0)), .v (.one (.d .bool x1))], [] => (g x0 x1).bind fun r => K ⟨.tup [(.one (.d (.int .i64) r.1)), (.one (.d (.int .i64) r.2))], []⟩
    | _, _ => none
  legit := fun tvs blks K r h => by
    split at h
    · obtain ⟨x, hx, hk⟩ := Option.bind_eq_some_iff.1 h
      refine ⟨_, ?_, hk⟩
      simp only [hx, Option.bind_some]
    · simp at h
noncomputable def env_transomref01_lead  (s0 : Int → Bool → Option (Int × Int)) (s1 : Int → Bool → Option (Int × Int)) : FEnv := { P := Go.Proofs.Try.prog, ct := fun m => none, N := 35, body := Go.Proofs.Try.f68.body.getD .skip, rvs := [.tmp 2, .tmp 3], rts := [3, 3], nin := 0, rmv := [], segs := [seg_transomref01_lead_0 s0, seg_transomref01_lead_1 s1] }
def transomref01_lead.c {β : Type}  (s0 : Int → Bool → Option (Int × Int)) (s1 : Int → Bool → Option (Int × Int)) (a0 : Int) (ret : (Int × Int) → Option β) : Option β := (bif (decide (a0 < (128 : Int))) then (ret ((1 : Int), a0)) else (bif (decide (a0 ≥ (192 : Int))) then ((s0 a0 (decide (a0 < (224 : Int)))).bind ret) else ((s0 a0 false).bind ret)))
def transomref01_lead.s0c {β : Type}  (s0 : Int → Bool → Option (Int × Int)) (s1 : Int → Bool → Option (Int × Int)) (x0 : Int) (x1 : Bool) (ret : (Int × Int) → Option β) : Option β := (bif x1 then (ret ((2 : Int), (IntKind.wrap IntKind.i64 (x0 - (192 : Int))))) else (bif (decide (x0 ≥ (224 : Int))) then ((s1 x0 (decide (x0 < (240 : Int)))).bind ret) else ((s1 x0 false).bind ret)))
def transomref01_lead.s1c {β : Type}  (s0 : Int → Bool → Option (Int × Int)) (s1 : Int → Bool → Option (Int × Int)) (x0 : Int) (x1 : Bool) (ret : (Int × Int) → Option β) : Option β := (bif x1 then (ret ((3 : Int), (IntKind.wrap IntKind.i64 (x0 - (224 : Int))))) else (bif (decide (x0 ≥ (240 : Int))) then (bif (decide (x0 < (248 : Int))) then (ret ((4 : Int), (IntKind.wrap IntKind.i64 (x0 - (240 : Int))))) else (ret ((0 : Int), (0 : Int)))) else (ret ((0 : Int), (0 : Int)))))
theorem transomref01_lead.c_bind {β : Type}  (s0 : Int → Bool → Option (Int × Int)) (s1 : Int → Bool → Option (Int × Int)) (a0 : Int) (ret : (Int × Int) → Option β) : transomref01_lead.c  s0 s1 a0 ret = (transomref01_lead.c  s0 s1 a0 some).bind ret := by
  simp only [transomref01_lead.c, bif_bind, sum_bind, Option.bind_assoc, Option.bind_some, Option.bind_none, Option.bind_fun_some]
theorem transomref01_lead.s0c_bind {β : Type}  (s0 : Int → Bool → Option (Int × Int)) (s1 : Int → Bool → Option (Int × Int)) (x0 : Int) (x1 : Bool) (ret : (Int × Int) → Option β) : transomref01_lead.s0c  s0 s1 x0 x1 ret = (transomref01_lead.s0c  s0 s1 x0 x1 some).bind ret := by
  simp only [transomref01_lead.s0c, bif_bind, sum_bind, Option.bind_assoc, Option.bind_some, Option.bind_none, Option.bind_fun_some]
theorem transomref01_lead.s1c_bind {β : Type}  (s0 : Int → Bool → Option (Int × Int)) (s1 : Int → Bool → Option (Int × Int)) (x0 : Int) (x1 : Bool) (ret : (Int × Int) → Option β) : transomref01_lead.s1c  s0 s1 x0 x1 ret = (transomref01_lead.s1c  s0 s1 x0 x1 some).bind ret := by
  simp only [transomref01_lead.s1c, bif_bind, sum_bind, Option.bind_assoc, Option.bind_some, Option.bind_none, Option.bind_fun_some]
theorem transomref01_lead.ev  (s0 : Int → Bool → Option (Int × Int)) (s1 : Int → Bool → Option (Int × Int)) (a0 : Int) : evAt (env_transomref01_lead  s0 s1) [] [0] [.v (.one (.d (.int .i64) a0))] [] some = transomref01_lead.c  s0 s1 a0 (fun r => some ⟨.tup [(.one (.d (.int .i64) r.1)), (.one (.d (.int .i64) r.2))], []⟩) := by
  kernel_rfl
theorem transomref01_lead.s0_ev  (s0 : Int → Bool → Option (Int × Int)) (s1 : Int → Bool → Option (Int × Int)) (x0 : Int) (x1 : Bool) : evAt (env_transomref01_lead  s0 s1) [1, 3, 1, 4, 0, 1] [0, 8] [.v (.one (.d (.int .i64) x0)), .v (.one (.d .bool x1))] [] some = transomref01_lead.s0c  s0 s1 x0 x1 (fun r => some ⟨.tup [(.one (.d (.int .i64) r.1)), (.one (.d (.int .i64) r.2))], []⟩) := by
  kernel_rfl
theorem transomref01_lead.s1_ev  (s0 : Int → Bool → Option (Int × Int)) (s1 : Int → Bool → Option (Int × Int)) (x0 : Int) (x1 : Bool) : evAt (env_transomref01_lead  s0 s1) [1, 3, 1, 3, 1, 4, 0, 1] [0, 17] [.v (.one (.d (.int .i64) x0)), .v (.one (.d .bool x1))] [] some = transomref01_lead.s1c  s0 s1 x0 x1 (fun r => some ⟨.tup [(.one (.d (.int .i64) r.1)), (.one (.d (.int .i64) r.2))], []⟩) := by
  kernel_rfl
mutual
def transomref01_lead.s0 : Nat → Int → Bool → Option (Int × Int)
  | 0, _, _ => none
  | k + 1, x0, x1 => transomref01_lead.s0c  (transomref01_lead.s0 k) (transomref01_lead.s1 k) x0 x1 some
def transomref01_lead.s1 : Nat → Int → Bool → Option (Int × Int)
  | 0, _, _ => none
  | k + 1, x0, x1 => transomref01_lead.s1c  (transomref01_lead.s0 k) (transomref01_lead.s1 k) x0 x1 some
end
def transomref01_lead.f (k : Nat) (a0 : Int) : Option (Int × Int) := transomref01_lead.c  (transomref01_lead.s0 k) (transomref01_lead.s1 k) a0 some
theorem transomref01_lead.is  (s0 : Int → Bool → Option (Int × Int)) (s1 : Int → Bool → Option (Int × Int)) : FnIs (env_transomref01_lead  s0 s1) 68 Go.Proofs.Try.f68 := ⟨Go.Proofs.Try.func68, rfl, rfl, rfl, by decide⟩
theorem transomref01_lead.envok  (s0 : Int → Bool → Option (Int × Int)) (s1 : Int → Bool → Option (Int × Int))  : EnvOK (env_transomref01_lead  s0 s1).toEnv := by
  intro f c h
  simp only [env_transomref01_lead] at h
  simp at h
theorem transomref01_lead.segs_ok : ∀ k, ∀ s ∈ (env_transomref01_lead  (transomref01_lead.s0 k) (transomref01_lead.s1 k)).segs, SegOK (env_transomref01_lead  (transomref01_lead.s0 k) (transomref01_lead.s1 k)) Go.Proofs.Try.f68 s
  | 0 => by
    intro s hs
    simp only [env_transomref01_lead, List.mem_cons, List.not_mem_nil, or_false] at hs
    rcases hs with rfl | rfl
    · intro tvs blks res h; exfalso; simp only [seg_transomref01_lead_0] at h; split at h <;> simp [transomref01_lead.s0] at h
    · intro tvs blks res h; exfalso; simp only [seg_transomref01_lead_1] at h; split at h <;> simp [transomref01_lead.s1] at h
  | k + 1 => by
    have ih := transomref01_lead.segs_ok k
    intro s hs
    simp only [env_transomref01_lead, List.mem_cons, List.not_mem_nil, or_false] at hs
    rcases hs with rfl | rfl
    · refine seg_of_ev (E := env_transomref01_lead  (transomref01_lead.s0 k) (transomref01_lead.s1 k)) (transomref01_lead.envok _ _  ) ⟨(transomref01_lead.is  (transomref01_lead.s0 k) (transomref01_lead.s1 k)).rvs⟩ ih ?_
      intro tvs blks res h
      simp only [seg_transomref01_lead_0] at h
      split at h
      · refine (transomref01_lead.s0_ev  (transomref01_lead.s0 k) (transomref01_lead.s1 k) _ _ ).trans ?_
        rw [transomref01_lead.s0c_bind]
        exact h
      · simp at h
    · refine seg_of_ev (E := env_transomref01_lead  (transomref01_lead.s0 k) (transomref01_lead.s1 k)) (transomref01_lead.envok _ _  ) ⟨(transomref01_lead.is  (transomref01_lead.s0 k) (transomref01_lead.s1 k)).rvs⟩ ih ?_
      intro tvs blks res h
      simp only [seg_transomref01_lead_1] at h
      split at h
      · refine (transomref01_lead.s1_ev  (transomref01_lead.s0 k) (transomref01_lead.s1 k) _ _ ).trans ?_
        rw [transomref01_lead.s1c_bind]
        exact h
      · simp at h
theorem transomref01_lead.ok (k : Nat) : CtOK Go.Proofs.Try.prog 68 (ct_transomref01_lead (transomref01_lead.f k)) := by
  refine ct_of_ev (E := env_transomref01_lead  (transomref01_lead.s0 k) (transomref01_lead.s1 k)) (transomref01_lead.is _ _ ) (transomref01_lead.envok _ _  ) (transomref01_lead.segs_ok k) rfl ?_
  intro tvs blks res h
  simp only [ct_transomref01_lead] at h
  split at h
  · refine (transomref01_lead.ev  (transomref01_lead.s0 k) (transomref01_lead.s1 k) _ ).trans ?_
    rw [transomref01_lead.c_bind]
    exact h
  · simp at h

/-! ### transomref01_among: function 69 -/
def ct_transomref01_among (g : Int → Int → Int → Option Bool) : Ct where
  nin := 0
  mv := []
  F := fun tvs blks {β} K => match tvs, blks with
    | [.v (.one (.d (.int .i64) a0)), .v (.one (.d (.int .i64) a1)), .v (.one (.d (.int .i64) a2))], [] => (g a0 a1 a2).bind fun r => K ⟨.v (.one (.d .bool r)), []⟩
    | _, _ => none
  legit := fun tvs blks K r h => by
    split at h
    · obtain ⟨x, hx, hk⟩ := Option.bind_eq_some_iff.1 h
      refine ⟨_, ?_, hk⟩
      simp only [hx, Option.bind_some]
    · simp at h
def seg_transomref01_among_0 (g : Int → Int → Int → Int → Int → Option Bool) : Seg where
  path := [1, 1, 1]
  prep := []
  keep := [0, 1, 2, 7, 8]
  F := fun tvs blks {β} K => match tvs, blks with
    | [.v (.one (.d (.int .i64) x0)), .v (.one (.d (.int .i64) x1)), .v (.one (.d (.int .i64) x2)), .v (.one (.d (.int .i64) x3)), .v (.one (.d (.int .i64) x4))], [] => (g x0 x1 x2 x3 x4).bind fun r => K ⟨.v (.one (.d .bool r)), []⟩
    | _, _ => none
  legit := fun tvs blks K r h => by
    split at h
    · obtain ⟨x, hx, hk⟩ := Option.bind_eq_some_iff.1 h
      refine ⟨_, ?_, hk⟩
      simp only [hx, Option.bind_some]
    · simp at h
def seg_transomref01_among_1 (g : Int → Int → Int → Int → Int → Option Bool) : Seg where
  path := [1, 1, 1, 1]
  prep := []
  keep := [0, 1, 2, 7, 8]
  F := fun tvs blks {β} K => match tvs, blks with
    | [.v (.one (.d (.int .i64) x0)), .v (.one (.d (.int .i64) x1)), .v (.one (.d (.int .i64) x2)), .v (.one (.d (.int .i64) x3)), .v (.one (.d (.int .i64) x4))], [] => (g x0 x1 x2 x3 x4).bind fun r => K ⟨.v (.one (.d .bool r)), []⟩
    | _, _ => none
  legit := fun tvs blks K r h => by
    split at h
    · obtain ⟨x, hx, hk⟩ := Option.bind_eq_some_iff.1 h
      refine ⟨_, ?_, hk⟩
      simp only [hx, Option.bind_some]
    · simp at h
def seg_transomref01_among_2 (g : Int → Int → Int → Int → Option Bool) : Seg where
  path := [1, 1, 1, 1, 1]
  prep := []
  keep := [0, 1, 7, 8]
  F := fun tvs blks {β} K => match tvs, blks with
    | [.v (.one (.d (.int .i64) x0)), .v (.one (.d (.int .i64) x1)), .v (.one (.d (.int .i64) x2)), .v (.one (.d (.int .i64) x3))], [] => (g x0 x1 x2 x3).bind fun r => K ⟨.v (.one (.d .bool r)), []⟩
    | _, _ => none
  legit := fun tvs blks K r h => by
    split at h
    · obtain ⟨x, hx, hk⟩ := Option.bind_eq_some_iff.1 h
      refine ⟨_, ?_, hk⟩
      simp only [hx, Option.bind_some]
    · simp at h
noncomputable def env_transomref01_among  (s0 : Int → Int → Int → Int → Int → Option Bool) (s1 : Int → Int → Int → Int → Int → Option Bool) (s2 : Int → Int → Int → Int → Option Bool) : FEnv := { P := Go.Proofs.Try.prog, ct := fun m => none, N := 30, body := Go.Proofs.Try.f69.body.getD .skip, rvs := [.tmp 6], rts := [4], nin := 0, rmv := [], segs := [seg_transomref01_among_0 s0, seg_transomref01_among_1 s1, seg_transomref01_among_2 s2] }
def transomref01_among.c {β : Type}  (s0 : Int → Int → Int → Int → Int → Option Bool) (s1 : Int → Int → Int → Int → Int → Option Bool) (s2 : Int → Int → Int → Int → Option Bool) (a0 : Int) (a1 : Int) (a2 : Int) (ret : Bool → Option β) : Option β := (bif (a2 == (2 : Int)) then ((s0 a0 a1 a2 (128 : Int) (2047 : Int)).bind ret) else ((s0 a0 a1 a2 (0 : Int) (127 : Int)).bind ret))
def transomref01_among.s0c {β : Type}  (s0 : Int → Int → Int → Int → Int → Option Bool) (s1 : Int → Int → Int → Int → Int → Option Bool) (s2 : Int → Int → Int → Int → Option Bool) (x0 : Int) (x1 : Int) (x2 : Int) (x3 : Int) (x4 : Int) (ret : Bool → Option β) : Option β := (bif (x2 == (3 : Int)) then ((s1 x0 x1 x2 (2048 : Int) (65535 : Int)).bind ret) else ((s1 x0 x1 x2 x3 x4).bind ret))
def transomref01_among.s1c {β : Type}  (s0 : Int → Int → Int → Int → Int → Option Bool) (s1 : Int → Int → Int → Int → Int → Option Bool) (s2 : Int → Int → Int → Int → Option Bool) (x0 : Int) (x1 : Int) (x2 : Int) (x3 : Int) (x4 : Int) (ret : Bool → Option β) : Option β := (bif (x2 == (4 : Int)) then ((s2 x0 x1 (65536 : Int) (1114111 : Int)).bind ret) else ((s2 x0 x1 x3 x4).bind ret))
def transomref01_among.s2c {β : Type}  (s0 : Int → Int → Int → Int → Int → Option Bool) (s1 : Int → Int → Int → Int → Int → Option Bool) (s2 : Int → Int → Int → Int → Option Bool) (x0 : Int) (x1 : Int) (x2 : Int) (x3 : Int) (ret : Bool → Option β) : Option β := (bif (decide ((if (x2 > x0) then x2 else x0) > (if (x3 < x1) then x3 else x1))) then (ret (false)) else (bif (decide ((if (x2 > x0) then x2 else x0) < (55296 : Int))) then (ret (true)) else (ret ((decide ((if (x3 < x1) then x3 else x1) > (57343 : Int)))))))
theorem transomref01_among.c_bind {β : Type}  (s0 : Int → Int → Int → Int → Int → Option Bool) (s1 : Int → Int → Int → Int → Int → Option Bool) (s2 : Int → Int → Int → Int → Option Bool) (a0 : Int) (a1 : Int) (a2 : Int) (ret : Bool → Option β) : transomref01_among.c  s0 s1 s2 a0 a1 a2 ret = (transomref01_among.c  s0 s1 s2 a0 a1 a2 some).bind ret := by
  simp only [transomref01_among.c, bif_bind, sum_bind, Option.bind_assoc, Option.bind_some, Option.bind_none, Option.bind_fun_some]
theorem transomref01_among.s0c_bind {β : Type}  (s0 : Int → Int → Int → Int → Int → Option Bool) (s1 : Int → Int → Int → Int → Int → Option Bool) (s2 : Int → Int → Int → Int → Option Bool) (x0 : Int) (x1 : Int) (x2 : Int) (x3 : Int) (x4 : Int) (ret : Bool → Option β) : transomref01_among.s0c  s0 s1 s2 x0 x1 x2 x3 x4 ret = (transomref01_among.s0c  s0 s1 s2 x0 x1 x2 x3 x4 some).bind ret := by
  simp only [transomref01_among.s0c, bif_bind, sum_bind, Option.bind_assoc, Option.bind_some, Option.bind_none, Option.bind_fun_some]
theorem transomref01_among.s1c_bind {β : Type}  (s0 : Int → Int → Int → Int → Int → Option Bool) (s1 : Int → Int → Int → Int → Int → Option Bool) (s2 : Int → Int → Int → Int → Option Bool) (x0 : Int) (x1 : Int) (x2 : Int) (x3 : Int) (x4 : Int) (ret : Bool → Option β) : transomref01_among.s1c  s0 s1 s2 x0 x1 x2 x3 x4 ret = (transomref01_among.s1c  s0 s1 s2 x0 x1 x2 x3 x4 some).bind ret := by
  simp only [transomref01_among.s1c, bif_bind, sum_bind, Option.bind_assoc, Option.bind_some, Option.bind_none, Option.bind_fun_some]
theorem transomref01_among.s2c_bind {β : Type}  (s0 : Int → Int → Int → Int → Int → Option Bool) (s1 : Int → Int → Int → Int → Int → Option Bool) (s2 : Int → Int → Int → Int → Option Bool) (x0 : Int) (x1 : Int) (x2 : Int) (x3 : Int) (ret : Bool → Option β) : transomref01_among.s2c  s0 s1 s2 x0 x1 x2 x3 ret = (transomref01_among.s2c  s0 s1 s2 x0 x1 x2 x3 some).bind ret := by
  simp only [transomref01_among.s2c, bif_bind, sum_bind, Option.bind_assoc, Option.bind_some, Option.bind_none, Option.bind_fun_some]
theorem transomref01_among.ev  (s0 : Int → Int → Int → Int → Int → Option Bool) (s1 : Int → Int → Int → Int → Int → Option Bool) (s2 : Int → Int → Int → Int → Option Bool) (a0 : Int) (a1 : Int) (a2 : Int) : evAt (env_transomref01_among  s0 s1 s2) [] [0, 1, 2] [.v (.one (.d (.int .i64) a0)), .v (.one (.d (.int .i64) a1)), .v (.one (.d (.int .i64) a2))] [] some = transomref01_among.c  s0 s1 s2 a0 a1 a2 (fun r => some ⟨.v (.one (.d .bool r)), []⟩) := by
  kernel_rfl
theorem transomref01_among.s0_ev  (s0 : Int → Int → Int → Int → Int → Option Bool) (s1 : Int → Int → Int → Int → Int → Option Bool) (s2 : Int → Int → Int → Int → Option Bool) (x0 : Int) (x1 : Int) (x2 : Int) (x3 : Int) (x4 : Int) : evAt (env_transomref01_among  s0 s1 s2) [1, 1, 1] [0, 1, 2, 7, 8] [.v (.one (.d (.int .i64) x0)), .v (.one (.d (.int .i64) x1)), .v (.one (.d (.int .i64) x2)), .v (.one (.d (.int .i64) x3)), .v (.one (.d (.int .i64) x4))] [] some = transomref01_among.s0c  s0 s1 s2 x0 x1 x2 x3 x4 (fun r => some ⟨.v (.one (.d .bool r)), []⟩) := by
  kernel_rfl
theorem transomref01_among.s1_ev  (s0 : Int → Int → Int → Int → Int → Option Bool) (s1 : Int → Int → Int → Int → Int → Option Bool) (s2 : Int → Int → Int → Int → Option Bool) (x0 : Int) (x1 : Int) (x2 : Int) (x3 : Int) (x4 : Int) : evAt (env_transomref01_among  s0 s1 s2) [1, 1, 1, 1] [0, 1, 2, 7, 8] [.v (.one (.d (.int .i64) x0)), .v (.one (.d (.int .i64) x1)), .v (.one (.d (.int .i64) x2)), .v (.one (.d (.int .i64) x3)), .v (.one (.d (.int .i64) x4))] [] some = transomref01_among.s1c  s0 s1 s2 x0 x1 x2 x3 x4 (fun r => some ⟨.v (.one (.d .bool r)), []⟩) := by
  kernel_rfl
theorem transomref01_among.s2_ev  (s0 : Int → Int → Int → Int → Int → Option Bool) (s1 : Int → Int → Int → Int → Int → Option Bool) (s2 : Int → Int → Int → Int → Option Bool) (x0 : Int) (x1 : Int) (x2 : Int) (x3 : Int) : evAt (env_transomref01_among  s0 s1 s2) [1, 1, 1, 1, 1] [0, 1, 7, 8] [.v (.one (.d (.int .i64) x0)), .v (.one (.d (.int .i64) x1)), .v (.one (.d (.int .i64) x2)), .v (.one (.d (.int .i64) x3))] [] some = transomref01_among.s2c  s0 s1 s2 x0 x1 x2 x3 (fun r => some ⟨.v (.one (.d .bool r)), []⟩) := by
  kernel_rfl
mutual
def transomref01_among.s0 : Nat → Int → Int → Int → Int → Int → Option Bool
  | 0, _, _, _, _, _ => none
  | k + 1, x0, x1, x2, x3, x4 => transomref01_among.s0c  (transomref01_among.s0 k) (transomref01_among.s1 k) (transomref01_among.s2 k) x0 x1 x2 x3 x4 some
def transomref01_among.s1 : Nat → Int → Int → Int → Int → Int → Option Bool
  | 0, _, _, _, _, _ => none
  | k + 1, x0, x1, x2, x3, x4 => transomref01_among.s1c  (transomref01_among.s0 k) (transomref01_among.s1 k) (transomref01_among.s2 k) x0 x1 x2 x3 x4 some
def transomref01_among.s2 : Nat → Int → Int → Int → Int → Option Bool
  | 0, _, _, _, _ => none
  | k + 1, x0, x1, x2, x3 => transomref01_among.s2c  (transomref01_among.s0 k) (transomref01_among.s1 k) (transomref01_among.s2 k) x0 x1 x2 x3 some
end
def transomref01_among.f (k : Nat) (a0 : Int) (a1 : Int) (a2 : Int) : Option Bool := transomref01_among.c  (transomref01_among.s0 k) (transomref01_among.s1 k) (transomref01_among.s2 k) a0 a1 a2 some
theorem transomref01_among.is  (s0 : Int → Int → Int → Int → Int → Option Bool) (s1 : Int → Int → Int → Int → Int → Option Bool) (s2 : Int → Int → Int → Int → Option Bool) : FnIs (env_transomref01_among  s0 s1 s2) 69 Go.Proofs.Try.f69 := ⟨Go.Proofs.Try.func69, rfl, rfl, rfl, by decide⟩
theorem transomref01_among.envok  (s0 : Int → Int → Int → Int → Int → Option Bool) (s1 : Int → Int → Int → Int → Int → Option Bool) (s2 : Int → Int → Int → Int → Option Bool)  : EnvOK (env_transomref01_among  s0 s1 s2).toEnv := by
  intro f c h
  simp only [env_transomref01_among] at h
  simp at h
theorem transomref01_among.segs_ok : ∀ k, ∀ s ∈ (env_transomref01_among  (transomref01_among.s0 k) (transomref01_among.s1 k) (transomref01_among.s2 k)).segs, SegOK (env_transomref01_among  (transomref01_among.s0 k) (transomref01_among.s1 k) (transomref01_among.s2 k)) Go.Proofs.Try.f69 s
  | 0 => by
    intro s hs
    simp only [env_transomref01_among, List.mem_cons, List.not_mem_nil, or_false] at hs
    rcases hs with rfl | rfl | rfl
    · intro tvs blks res h; exfalso; simp only [seg_transomref01_among_0] at h; split at h <;> simp [transomref01_among.s0] at h
    · intro tvs blks res h; exfalso; simp only [seg_transomref01_among_1] at h; split at h <;> simp [transomref01_among.s1] at h
    · intro tvs blks res h; exfalso; simp only [seg_transomref01_among_2] at h; split at h <;> simp [transomref01_among.s2] at h
  | k + 1 => by
    have ih := transomref01_among.segs_ok k
    intro s hs
    simp only [env_transomref01_among, List.mem_cons, List.not_mem_nil, or_false] at hs
    rcases hs with rfl | rfl | rfl
    · refine seg_of_ev (E := env_transomref01_among  (transomref01_among.s0 k) (transomref01_among.s1 k) (transomref01_among.s2 k)) (transomref01_among.envok _ _ _  ) ⟨(transomref01_among.is  (transomref01_among.s0 k) (transomref01_among.s1 k) (transomref01_among.s2 k)).rvs⟩ ih ?_
      intro tvs blks res h
      simp only [seg_transomref01_among_0] at h
      split at h
      · refine (transomref01_among.s0_ev  (transomref01_among.s0 k) (transomref01_among.s1 k) (transomref01_among.s2 k) _ _ _ _ _ ).trans ?_
        rw [transomref01_among.s0c_bind]
        exact h
      · simp at h
    · refine seg_of_ev (E := env_transomref01_among  (transomref01_among.s0 k) (transomref01_among.s1 k) (transomref01_among.s2 k)) (transomref01_among.envok _ _ _  ) ⟨(transomref01_among.is  (transomref01_among.s0 k) (transomref01_among.s1 k) (transomref01_among.s2 k)).rvs⟩ ih ?_
      intro tvs blks res h
      simp only [seg_transomref01_among_1] at h
      split at h
      · refine (transomref01_among.s1_ev  (transomref01_among.s0 k) (transomref01_among.s1 k) (transomref01_among.s2 k) _ _ _ _ _ ).trans ?_
        rw [transomref01_among.s1c_bind]
        exact h
      · simp at h
    · refine seg_of_ev (E := env_transomref01_among  (transomref01_among.s0 k) (transomref01_among.s1 k) (transomref01_among.s2 k)) (transomref01_among.envok _ _ _  ) ⟨(transomref01_among.is  (transomref01_among.s0 k) (transomref01_among.s1 k) (transomref01_among.s2 k)).rvs⟩ ih ?_
      intro tvs blks res h
      simp only [seg_transomref01_among_2] at h
      split at h
      · refine (transomref01_among.s2_ev  (transomref01_among.s0 k) (transomref01_among.s1 k) (transomref01_among.s2 k) _ _ _ _ ).trans ?_
        rw [transomref01_among.s2c_bind]
        exact h
      · simp at h
theorem transomref01_among.ok (k : Nat) : CtOK Go.Proofs.Try.prog 69 (ct_transomref01_among (transomref01_among.f k)) := by
  refine ct_of_ev (E := env_transomref01_among  (transomref01_among.s0 k) (transomref01_among.s1 k) (transomref01_among.s2 k)) (transomref01_among.is _ _ _ ) (transomref01_among.envok _ _ _  ) (transomref01_among.segs_ok k) rfl ?_
  intro tvs blks res h
  simp only [ct_transomref01_among] at h
  split at h
  · refine (transomref01_among.ev  (transomref01_among.s0 k) (transomref01_among.s1 k) (transomref01_among.s2 k) _ _ _ ).trans ?_
    rw [transomref01_among.c_bind]
    exact h
  · simp at h
end Go.Proofs.Ytpcojbnoadnknaa.Aev
