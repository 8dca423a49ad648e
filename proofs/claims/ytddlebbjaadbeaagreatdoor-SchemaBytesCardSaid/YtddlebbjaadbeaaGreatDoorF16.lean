/- By a program of this session (AEV): functions of the program as plain functions, and that the machine does what they say. -/
import Derived.Test.YtddlebbjaadbeaaGreatDoorTys
import Derived.Test.YtddlebbjaadbeaaGreatDoorProg
import Derived.Laws.Externs
import Derived.Lib.Bytealg
import Derived.Test.YtddlebbjaadbeaaGreatDoorF10
import Derived.Test.YtddlebbjaadbeaaGreatDoorF15
namespace Go.Proofs.YtddlebbjaadbeaaGreatDoor.Aev
set_option linter.unusedVariables false
set_option linter.unusedSimpArgs false
set_option maxRecDepth 100000
set_option maxHeartbeats 4000000
open Go Go.Proofs.Tryz
namespace transomref03_ReadText
abbrev G : Type := ByteArray → Option (ByteArray × ByteArray × Int)
def ct (g : G) : Ct where
  nin := 0
  mv := []
  F := fun tvs blks {β} K => match tvs, blks with
    | [.v (.one (.d .str a0))], [] => (g a0).bind fun r => K ⟨.tup [(.one (.d .str r.1)), (.one (.d .str r.2.1)), (.one (.d (.int .i64) r.2.2))], []⟩
    | _, _ => none
  legit := fun _ _ K _ h => by split at h; exact (legit1 K h :); simp at h
noncomputable def env (g43 : transomref03_ReadUint.G)  : FEnv := { P := prog, ct := fun m => if m = 43 then some (transomref03_ReadUint.ct g43) else none, N := 28, body := f41.body.getD .skip, rvs := [.tmp 2, .tmp 3, .tmp 4], rts := [9, 9, 3], nin := 0, rmv := [], segs := [] }
def c {β : Type} (g43 : transomref03_ReadUint.G)  (a0 : ByteArray) (ret : (ByteArray × ByteArray × Int) → Option β) : Option β := ((g43 a0).bind fun r0 => (bif (r0.2.2 != (0 : Int)) then (ret ((ByteArray.mk (List.toArray [])), (ByteArray.mk (List.toArray [])), r0.2.2)) else (bif (decide (r0.1 > (IntKind.wrap IntKind.u64 ((ByteArray.size r0.2.1) : Int)))) then (ret ((ByteArray.mk (List.toArray [])), (ByteArray.mk (List.toArray [])), (3 : Int))) else (bif ((true && (decide ((0 : Int) ≤ r0.1))) && (decide (r0.1 ≤ ((ByteArray.size r0.2.1) : Int)))) then (bif (((decide ((0 : Int) ≤ r0.1)) && (decide (r0.1 ≤ ((ByteArray.size r0.2.1) : Int)))) && (decide (((ByteArray.size r0.2.1) : Int) ≤ ((ByteArray.size r0.2.1) : Int)))) then (ret ((ByteArray.extract r0.2.1 (0 : Nat) (Int.toNat r0.1)), (ByteArray.extract r0.2.1 (Int.toNat r0.1) (Int.toNat ((ByteArray.size r0.2.1) : Int))), (0 : Int))) else none) else none))))
theorem c_bind {β : Type} {g43 : transomref03_ReadUint.G}  {a0 : ByteArray} {ret : (ByteArray × ByteArray × Int) → Option β} : c g43  a0 ret = (c g43  a0 some).bind ret := by
  simp only [c, bif_bind, sum_bind, oa, os, on, ofs]
theorem ev {g43 : transomref03_ReadUint.G}  {a0 : ByteArray} : evAt (env g43 ) [] [0] [.v (.one (.d .str a0))] [] some = c g43  a0 (fun r => some ⟨.tup [(.one (.d .str r.1)), (.one (.d .str r.2.1)), (.one (.d (.int .i64) r.2.2))], []⟩) := by
  kernel_rfl
def f (k : Nat) (a0 : ByteArray) : Option (ByteArray × ByteArray × Int) := c (transomref03_ReadUint.f k)  a0 some
theorem is {g43 : transomref03_ReadUint.G}  : FnIs (env g43 ) 41 f41 := ⟨func41, rfl, rfl, rfl, by decide⟩
theorem envok {g43 : transomref03_ReadUint.G}  (h43 : CtOK prog 43 (transomref03_ReadUint.ct g43)) : EnvOK (env g43 ).toEnv := by
  intro f c h
  simp only [env] at h
  split at h
  · rename_i e; subst e; cases h; exact h43
  simp at h
noncomputable abbrev E (k : Nat) : FEnv := env (transomref03_ReadUint.f k) 
theorem hE (k : Nat) : EnvOK (E k).toEnv := envok (transomref03_ReadUint.ok k)
theorem ok (k : Nat) : CtOK prog 41 (ct (f k)) := by
  refine ct_of_ev (E := E k) is (hE k) (fun s hs => by simp [E, env] at hs) rfl ?_
  intro tvs blks res h
  simp only [ct] at h
  split at h
  · exact (ev.trans c_bind).trans h
  · simp at h
end transomref03_ReadText
namespace transomref09_Small
abbrev G : Type := ByteArray → Option (Int × ByteArray × Int)
def ct (g : G) : Ct where
  nin := 0
  mv := []
  F := fun tvs blks {β} K => match tvs, blks with
    | [.v (.one (.d .str a0))], [] => (g a0).bind fun r => K ⟨.tup [(.one (.d (.int .i64) r.1)), (.one (.d .str r.2.1)), (.one (.d (.int .i64) r.2.2))], []⟩
    | _, _ => none
  legit := fun _ _ K _ h => by split at h; exact (legit1 K h :); simp at h
noncomputable def env (g43 : transomref03_ReadUint.G)  : FEnv := { P := prog, ct := fun m => if m = 43 then some (transomref03_ReadUint.ct g43) else none, N := 22, body := f42.body.getD .skip, rvs := [.tmp 2, .tmp 3, .tmp 4], rts := [3, 9, 3], nin := 0, rmv := [], segs := [] }
def c {β : Type} (g43 : transomref03_ReadUint.G)  (a0 : ByteArray) (ret : (Int × ByteArray × Int) → Option β) : Option β := ((g43 a0).bind fun r0 => (bif (r0.2.2 != (0 : Int)) then (ret ((0 : Int), (ByteArray.mk (List.toArray [])), r0.2.2)) else (bif (decide (r0.1 > (100 : Int))) then (ret ((0 : Int), (ByteArray.mk (List.toArray [])), (1 : Int))) else (ret ((IntKind.wrap IntKind.i64 r0.1), r0.2.1, (0 : Int))))))
theorem c_bind {β : Type} {g43 : transomref03_ReadUint.G}  {a0 : ByteArray} {ret : (Int × ByteArray × Int) → Option β} : c g43  a0 ret = (c g43  a0 some).bind ret := by
  simp only [c, bif_bind, sum_bind, oa, os, on, ofs]
theorem ev {g43 : transomref03_ReadUint.G}  {a0 : ByteArray} : evAt (env g43 ) [] [0] [.v (.one (.d .str a0))] [] some = c g43  a0 (fun r => some ⟨.tup [(.one (.d (.int .i64) r.1)), (.one (.d .str r.2.1)), (.one (.d (.int .i64) r.2.2))], []⟩) := by
  kernel_rfl
def f (k : Nat) (a0 : ByteArray) : Option (Int × ByteArray × Int) := c (transomref03_ReadUint.f k)  a0 some
theorem is {g43 : transomref03_ReadUint.G}  : FnIs (env g43 ) 42 f42 := ⟨func42, rfl, rfl, rfl, by decide⟩
theorem envok {g43 : transomref03_ReadUint.G}  (h43 : CtOK prog 43 (transomref03_ReadUint.ct g43)) : EnvOK (env g43 ).toEnv := by
  intro f c h
  simp only [env] at h
  split at h
  · rename_i e; subst e; cases h; exact h43
  simp at h
noncomputable abbrev E (k : Nat) : FEnv := env (transomref03_ReadUint.f k) 
theorem hE (k : Nat) : EnvOK (E k).toEnv := envok (transomref03_ReadUint.ok k)
theorem ok (k : Nat) : CtOK prog 42 (ct (f k)) := by
  refine ct_of_ev (E := E k) is (hE k) (fun s hs => by simp [E, env] at hs) rfl ?_
  intro tvs blks res h
  simp only [ct] at h
  split at h
  · exact (ev.trans c_bind).trans h
  · simp at h
end transomref09_Small
namespace transomref05_fixed
abbrev G : Type := Int → Option Int
def ct (g : G) : Ct where
  nin := 0
  mv := []
  F := fun tvs blks {β} K => match tvs, blks with
    | [.v (.one (.d (.int .i64) a0))], [] => (g a0).bind fun r => K ⟨.v (.one (.d (.int .i64) r)), []⟩
    | _, _ => none
  legit := fun _ _ K _ h => by split at h; exact (legit1 K h :); simp at h
noncomputable def env   : FEnv := { P := prog, ct := fun m => none, N := 9, body := f87.body.getD .skip, rvs := [.tmp 2], rts := [3], nin := 0, rmv := [], segs := [] }
def c {β : Type}   (a0 : Int) (ret : Int → Option β) : Option β := (bif (a0 == (1 : Int)) then (ret ((1 : Int))) else (bif (a0 == (2 : Int)) then (bif (a0 == (2 : Int)) then (ret ((8 : Int))) else (ret ((0 : Int)))) else (bif (a0 == (3 : Int)) then (ret ((8 : Int))) else (ret ((0 : Int))))))
theorem c_bind {β : Type}   {a0 : Int} {ret : Int → Option β} : c   a0 ret = (c   a0 some).bind ret := by
  simp only [c, bif_bind, sum_bind, oa, os, on, ofs]
theorem ev   {a0 : Int} : evAt (env  ) [] [0] [.v (.one (.d (.int .i64) a0))] [] some = c   a0 (fun r => some ⟨.v (.one (.d (.int .i64) r)), []⟩) := by
  kernel_rfl
def f (k : Nat) (a0 : Int) : Option Int := c   a0 some
theorem is   : FnIs (env  ) 87 f87 := ⟨func87, rfl, rfl, rfl, by decide⟩
theorem envok    : EnvOK (env  ).toEnv := by
  intro f c h
  simp only [env] at h
  simp at h
noncomputable abbrev E (k : Nat) : FEnv := env  
theorem hE (k : Nat) : EnvOK (E k).toEnv := envok 
theorem ok (k : Nat) : CtOK prog 87 (ct (f k)) := by
  refine ct_of_ev (E := E k) is (hE k) (fun s hs => by simp [E, env] at hs) rfl ?_
  intro tvs blks res h
  simp only [ct] at h
  split at h
  · exact (ev.trans c_bind).trans h
  · simp at h
end transomref05_fixed
namespace transomref05_Number
abbrev G : Type := ByteArray → Option Int
def ct (g : G) : Ct where
  nin := 0
  mv := []
  F := fun tvs blks {β} K => match tvs, blks with
    | [.v (.one (.d .str a0))], [] => (g a0).bind fun r => K ⟨.v (.one (.d (.int .u64) r)), []⟩
    | _, _ => none
  legit := fun _ _ K _ h => by split at h; exact (legit1 K h :); simp at h
abbrev S0 : Type := ByteArray → Int → Int → Option Int
def sg0 (g : S0) : Seg where
  path := [4, 1, 0, 1, 1]
  prep := []
  keep := [0, 3, 4]
  F := fun tvs blks {β} K => match tvs, blks with
    | [.v (.one (.d .str x0)), .v (.one (.d (.int .u64) x1)), .v (.one (.d (.int .i64) x2))], [] => (g x0 x1 x2).bind fun r => K ⟨.v (.one (.d (.int .u64) r)), []⟩
    | _, _ => none
  legit := fun _ _ K _ h => by split at h; exact (legit1 K h :); simp at h
noncomputable def env  (s0 : S0) : FEnv := { P := prog, ct := fun m => none, N := 17, body := f88.body.getD .skip, rvs := [.tmp 2], rts := [47], nin := 0, rmv := [], segs := [sg0 s0] }
def c {β : Type}  (s0 : S0) (a0 : ByteArray) (ret : Int → Option β) : Option β := ((s0 a0 (0 : Int) (0 : Int)).bind ret)
def s0c {β : Type}  (s0 : S0) (x0 : ByteArray) (x1 : Int) (x2 : Int) (ret : Int → Option β) : Option β := (bif (decide (x2 < (8 : Int))) then (bif ((decide ((0 : Int) ≤ x2)) && (decide (x2 < ((ByteArray.size x0) : Int)))) then ((s0 x0 (IntKind.wrap IntKind.u64 ((BitVec.toNat ((BitVec.ofInt (64 : Nat) (IntKind.wrap IntKind.u64 (x1 * (256 : Int)))) ||| (BitVec.ofInt (64 : Nat) (IntKind.wrap IntKind.u64 (bt x0 x2))))) : Int)) (IntKind.wrap IntKind.i64 (x2 + (1 : Int)))).bind ret) else none) else (ret (x1)))
theorem c_bind {β : Type}  {s0 : S0} {a0 : ByteArray} {ret : Int → Option β} : c  s0 a0 ret = (c  s0 a0 some).bind ret := by
  simp only [c, bif_bind, sum_bind, oa, os, on, ofs]
theorem s0c_bind {β : Type}  {s0 : S0} {x0 : ByteArray} {x1 : Int} {x2 : Int} {ret : Int → Option β} : s0c  s0 x0 x1 x2 ret = (s0c  s0 x0 x1 x2 some).bind ret := by
  simp only [s0c, bif_bind, sum_bind, oa, os, on, ofs]
theorem ev  {s0 : S0} {a0 : ByteArray} : evAt (env  s0) [] [0] [.v (.one (.d .str a0))] [] some = c  s0 a0 (fun r => some ⟨.v (.one (.d (.int .u64) r)), []⟩) := by
  kernel_rfl
theorem s0_ev  {s0 : S0} {x0 : ByteArray} {x1 : Int} {x2 : Int} : evAt (env  s0) [4, 1, 0, 1, 1] [0, 3, 4] [.v (.one (.d .str x0)), .v (.one (.d (.int .u64) x1)), .v (.one (.d (.int .i64) x2))] [] some = s0c  s0 x0 x1 x2 (fun r => some ⟨.v (.one (.d (.int .u64) r)), []⟩) := by
  kernel_rfl
def s0 : Nat → ByteArray → Int → Int → Option Int
  | 0, _, _, _ => none
  | k + 1, x0, x1, x2 => s0c  (s0 k) x0 x1 x2 some
def f (k : Nat) (a0 : ByteArray) : Option Int := c  (s0 k) a0 some
theorem is  {s0 : S0} : FnIs (env  s0) 88 f88 := ⟨func88, rfl, rfl, rfl, by decide⟩
theorem envok  {s0 : S0}  : EnvOK (env  s0).toEnv := by
  intro f c h
  simp only [env] at h
  simp at h
noncomputable abbrev E (k : Nat) : FEnv := env  (s0 k)
theorem hE (k : Nat) : EnvOK (E k).toEnv := envok 
theorem segs_ok : ∀ k, ∀ s ∈ (E k).segs, SegOK (E k) f88 s
  | 0 => by
    intro s hs
    simp only [E, env, List.mem_cons, List.not_mem_nil, or_false] at hs
    rcases hs with rfl
    · intro tvs blks res h; exfalso; simp only [sg0] at h; split at h <;> simp [s0] at h
  | k + 1 => by
    intro s hs
    simp only [E, env, List.mem_cons, List.not_mem_nil, or_false] at hs
    rcases hs with rfl
    · refine seg_of_ev (E := E k) (hE k) ⟨is.rvs⟩ (segs_ok k) ?_
      intro tvs blks res h
      simp only [sg0] at h
      split at h
      · exact (s0_ev.trans s0c_bind).trans h
      · simp at h
theorem ok (k : Nat) : CtOK prog 88 (ct (f k)) := by
  refine ct_of_ev (E := E k) is (hE k) (segs_ok k) rfl ?_
  intro tvs blks res h
  simp only [ct] at h
  split at h
  · exact (ev.trans c_bind).trans h
  · simp at h
end transomref05_Number
namespace transomref02_Back
abbrev G : Type := Int → Option (Int × Bool)
def ct (g : G) : Ct where
  nin := 0
  mv := []
  F := fun tvs blks {β} K => match tvs, blks with
    | [.v (.one (.d (.int .u64) a0))], [] => (g a0).bind fun r => K ⟨.tup [(.one (.d (.int .u64) r.1)), (.one (.d .bool r.2))], []⟩
    | _, _ => none
  legit := fun _ _ K _ h => by split at h; exact (legit1 K h :); simp at h
noncomputable def env (g81 : transomref02_Canon.G)  : FEnv := { P := prog, ct := fun m => if m = 81 then some (transomref02_Canon.ct g81) else none, N := 17, body := f89.body.getD .skip, rvs := [.tmp 2, .tmp 3], rts := [47, 4], nin := 0, rmv := [], segs := [] }
def c {β : Type} (g81 : transomref02_Canon.G)  (a0 : Int) (ret : (Int × Bool) → Option β) : Option β := (bif ((Int.fdiv a0 (9223372036854775808 : Int)) == (1 : Int)) then ((g81 (IntKind.wrap IntKind.u64 ((BitVec.toNat ((BitVec.ofInt (64 : Nat) a0) &&& (BitVec.ofInt (64 : Nat) (9223372036854775807 : Int)))) : Int))).bind fun r0 => (bif (r0 != (IntKind.wrap IntKind.u64 ((BitVec.toNat ((BitVec.ofInt (64 : Nat) a0) &&& (BitVec.ofInt (64 : Nat) (9223372036854775807 : Int)))) : Int))) then (ret ((0 : Int), false)) else (ret ((IntKind.wrap IntKind.u64 ((BitVec.toNat ((BitVec.ofInt (64 : Nat) a0) &&& (BitVec.ofInt (64 : Nat) (9223372036854775807 : Int)))) : Int)), true)))) else ((g81 (IntKind.wrap IntKind.u64 ((BitVec.toNat ((BitVec.ofInt (64 : Nat) (18446744073709551615 : Int)) ^^^ (BitVec.ofInt (64 : Nat) a0))) : Int))).bind fun r1 => (bif (r1 != (IntKind.wrap IntKind.u64 ((BitVec.toNat ((BitVec.ofInt (64 : Nat) (18446744073709551615 : Int)) ^^^ (BitVec.ofInt (64 : Nat) a0))) : Int))) then (ret ((0 : Int), false)) else (ret ((IntKind.wrap IntKind.u64 ((BitVec.toNat ((BitVec.ofInt (64 : Nat) (18446744073709551615 : Int)) ^^^ (BitVec.ofInt (64 : Nat) a0))) : Int)), true)))))
theorem c_bind {β : Type} {g81 : transomref02_Canon.G}  {a0 : Int} {ret : (Int × Bool) → Option β} : c g81  a0 ret = (c g81  a0 some).bind ret := by
  simp only [c, bif_bind, sum_bind, oa, os, on, ofs]
theorem ev {g81 : transomref02_Canon.G}  {a0 : Int} : evAt (env g81 ) [] [0] [.v (.one (.d (.int .u64) a0))] [] some = c g81  a0 (fun r => some ⟨.tup [(.one (.d (.int .u64) r.1)), (.one (.d .bool r.2))], []⟩) := by
  kernel_rfl
def f (k : Nat) (a0 : Int) : Option (Int × Bool) := c (transomref02_Canon.f k)  a0 some
theorem is {g81 : transomref02_Canon.G}  : FnIs (env g81 ) 89 f89 := ⟨func89, rfl, rfl, rfl, by decide⟩
theorem envok {g81 : transomref02_Canon.G}  (h81 : CtOK prog 81 (transomref02_Canon.ct g81)) : EnvOK (env g81 ).toEnv := by
  intro f c h
  simp only [env] at h
  split at h
  · rename_i e; subst e; cases h; exact h81
  simp at h
noncomputable abbrev E (k : Nat) : FEnv := env (transomref02_Canon.f k) 
theorem hE (k : Nat) : EnvOK (E k).toEnv := envok (transomref02_Canon.ok k)
theorem ok (k : Nat) : CtOK prog 89 (ct (f k)) := by
  refine ct_of_ev (E := E k) is (hE k) (fun s hs => by simp [E, env] at hs) rfl ?_
  intro tvs blks res h
  simp only [ct] at h
  split at h
  · exact (ev.trans c_bind).trans h
  · simp at h
end transomref02_Back
namespace transomref05_plain
abbrev G : Type := ByteArray → Option (ByteArray × ByteArray × Int)
def ct (g : G) : Ct where
  nin := 0
  mv := []
  F := fun tvs blks {β} K => match tvs, blks with
    | [.v (.one (.d .str a0))], [] => (g a0).bind fun r => K ⟨.tup [(.one (.d .str r.1)), (.one (.d .str r.2.1)), (.one (.d (.int .i64) r.2.2))], []⟩
    | _, _ => none
  legit := fun _ _ K _ h => by split at h; exact (legit1 K h :); simp at h
abbrev S0 : Type := ByteArray → Int → (List Int) → Option (ByteArray × ByteArray × Int)
abbrev S1 : Type := ByteArray → Int → (List Int) → Option (ByteArray × ByteArray × Int)
def sg0 (g : S0) : Seg where
  path := [4, 1, 0, 1, 1]
  prep := [.own 5 (.int .u8)]
  keep := [0, 5, 6]
  F := fun tvs blks {β} K => match tvs, blks with
    | [.v (.one (.d .str x0)), .v (.one (.own 0)), .v (.one (.d (.int .i64) x1))], [some (.own (.int .u8) false x2)] => (g x0 x1 x2).bind fun r => K ⟨.tup [(.one (.d .str r.1)), (.one (.d .str r.2.1)), (.one (.d (.int .i64) r.2.2))], []⟩
    | _, _ => none
  legit := fun _ _ K _ h => by split at h; exact (legit1 K h :); simp at h
def sg1 (g : S1) : Seg where
  path := [1, 1, 5, 4, 1, 0, 1, 1]
  prep := []
  keep := [0, 5, 6]
  F := fun tvs blks {β} K => match tvs, blks with
    | [.v (.one (.d .str x0)), .v (.one (.own 0)), .v (.one (.d (.int .i64) x1))], [some (.own (.int .u8) false x2)] => (g x0 x1 x2).bind fun r => K ⟨.tup [(.one (.d .str r.1)), (.one (.d .str r.2.1)), (.one (.d (.int .i64) r.2.2))], []⟩
    | _, _ => none
  legit := fun _ _ K _ h => by split at h; exact (legit1 K h :); simp at h
noncomputable def env  (s0 : S0) (s1 : S1) : FEnv := { P := prog, ct := fun m => none, N := 49, body := f90.body.getD .skip, rvs := [.tmp 2, .tmp 3, .tmp 4], rts := [9, 9, 3], nin := 0, rmv := [], segs := [sg0 s0, sg1 s1] }
def c {β : Type}  (s0 : S0) (s1 : S1) (a0 : ByteArray) (ret : (ByteArray × ByteArray × Int) → Option β) : Option β := ((s0 a0 (0 : Int) []).bind ret)
def s0c {β : Type}  (s0 : S0) (s1 : S1) (x0 : ByteArray) (x1 : Int) (x2 : List Int) (ret : (ByteArray × ByteArray × Int) → Option β) : Option β := (bif (decide (x1 < ((ByteArray.size x0) : Int))) then (bif ((decide ((0 : Int) ≤ x1)) && (decide (x1 < ((ByteArray.size x0) : Int)))) then (bif ((bt x0 x1) != (0 : Int)) then (bif ((decide ((0 : Int) ≤ x1)) && (decide (x1 < ((ByteArray.size x0) : Int)))) then (bif (decide ((((List.length x2) + (1 : Nat)) * (1 : Nat)) ≤ (35184372088832 : Nat))) then ((s1 x0 x1 (x2 ++ [(bt x0 x1)])).bind ret) else none) else none) else (bif ((IntKind.wrap IntKind.i64 (x1 + (1 : Int))) == ((ByteArray.size x0) : Int)) then (ret ((ByteArray.mk (List.toArray [])), (ByteArray.mk (List.toArray [])), (3 : Int))) else (bif ((decide ((0 : Int) ≤ (IntKind.wrap IntKind.i64 (x1 + (1 : Int))))) && (decide ((IntKind.wrap IntKind.i64 (x1 + (1 : Int))) < ((ByteArray.size x0) : Int)))) then (bif ((bt x0 (IntKind.wrap IntKind.i64 (x1 + (1 : Int)))) == (0 : Int)) then (bif (((decide ((0 : Int) ≤ (IntKind.wrap IntKind.i64 (x1 + (2 : Int))))) && (decide ((IntKind.wrap IntKind.i64 (x1 + (2 : Int))) ≤ ((ByteArray.size x0) : Int)))) && (decide (((ByteArray.size x0) : Int) ≤ ((ByteArray.size x0) : Int)))) then (ret ((ByteArray.mk (List.toArray (List.map (fun n => (UInt8.ofNat (Int.toNat n))) x2))), (ByteArray.extract x0 (Int.toNat (IntKind.wrap IntKind.i64 (x1 + (2 : Int)))) (Int.toNat ((ByteArray.size x0) : Int))), (0 : Int))) else none) else (bif ((decide ((0 : Int) ≤ (IntKind.wrap IntKind.i64 (x1 + (1 : Int))))) && (decide ((IntKind.wrap IntKind.i64 (x1 + (1 : Int))) < ((ByteArray.size x0) : Int)))) then (bif ((bt x0 (IntKind.wrap IntKind.i64 (x1 + (1 : Int)))) != (255 : Int)) then (ret ((ByteArray.mk (List.toArray [])), (ByteArray.mk (List.toArray [])), (4 : Int))) else (bif (decide ((((List.length x2) + (1 : Nat)) * (1 : Nat)) ≤ (35184372088832 : Nat))) then ((s1 x0 (IntKind.wrap IntKind.i64 (x1 + (1 : Int))) (x2 ++ [(0 : Int)])).bind ret) else none)) else none)) else none))) else none) else (ret ((ByteArray.mk (List.toArray [])), (ByteArray.mk (List.toArray [])), (3 : Int))))
def s1c {β : Type}  (s0 : S0) (s1 : S1) (x0 : ByteArray) (x1 : Int) (x2 : List Int) (ret : (ByteArray × ByteArray × Int) → Option β) : Option β := ((s0 x0 (IntKind.wrap IntKind.i64 (x1 + (1 : Int))) x2).bind ret)
theorem c_bind {β : Type}  {s0 : S0} {s1 : S1} {a0 : ByteArray} {ret : (ByteArray × ByteArray × Int) → Option β} : c  s0 s1 a0 ret = (c  s0 s1 a0 some).bind ret := by
  simp only [c, bif_bind, sum_bind, oa, os, on, ofs]
theorem s0c_bind {β : Type}  {s0 : S0} {s1 : S1} {x0 : ByteArray} {x1 : Int} {x2 : List Int} {ret : (ByteArray × ByteArray × Int) → Option β} : s0c  s0 s1 x0 x1 x2 ret = (s0c  s0 s1 x0 x1 x2 some).bind ret := by
  simp only [s0c, bif_bind, sum_bind, oa, os, on, ofs]
theorem s1c_bind {β : Type}  {s0 : S0} {s1 : S1} {x0 : ByteArray} {x1 : Int} {x2 : List Int} {ret : (ByteArray × ByteArray × Int) → Option β} : s1c  s0 s1 x0 x1 x2 ret = (s1c  s0 s1 x0 x1 x2 some).bind ret := by
  simp only [s1c, bif_bind, sum_bind, oa, os, on, ofs]
theorem ev  {s0 : S0} {s1 : S1} {a0 : ByteArray} : evAt (env  s0 s1) [] [0] [.v (.one (.d .str a0))] [] some = c  s0 s1 a0 (fun r => some ⟨.tup [(.one (.d .str r.1)), (.one (.d .str r.2.1)), (.one (.d (.int .i64) r.2.2))], []⟩) := by
  kernel_rfl
theorem s0_ev  {s0 : S0} {s1 : S1} {x0 : ByteArray} {x1 : Int} {x2 : List Int} : evAt (env  s0 s1) [4, 1, 0, 1, 1] [0, 5, 6] [.v (.one (.d .str x0)), .v (.one (.own 0)), .v (.one (.d (.int .i64) x1))] [some (.own (.int .u8) false x2)] some = s0c  s0 s1 x0 x1 x2 (fun r => some ⟨.tup [(.one (.d .str r.1)), (.one (.d .str r.2.1)), (.one (.d (.int .i64) r.2.2))], []⟩) := by
  kernel_rfl
theorem s1_ev  {s0 : S0} {s1 : S1} {x0 : ByteArray} {x1 : Int} {x2 : List Int} : evAt (env  s0 s1) [1, 1, 5, 4, 1, 0, 1, 1] [0, 5, 6] [.v (.one (.d .str x0)), .v (.one (.own 0)), .v (.one (.d (.int .i64) x1))] [some (.own (.int .u8) false x2)] some = s1c  s0 s1 x0 x1 x2 (fun r => some ⟨.tup [(.one (.d .str r.1)), (.one (.d .str r.2.1)), (.one (.d (.int .i64) r.2.2))], []⟩) := by
  kernel_rfl
mutual
def s0 : Nat → ByteArray → Int → (List Int) → Option (ByteArray × ByteArray × Int)
  | 0, _, _, _ => none
  | k + 1, x0, x1, x2 => s0c  (s0 k) (s1 k) x0 x1 x2 some
def s1 : Nat → ByteArray → Int → (List Int) → Option (ByteArray × ByteArray × Int)
  | 0, _, _, _ => none
  | k + 1, x0, x1, x2 => s1c  (s0 k) (s1 k) x0 x1 x2 some
end
def f (k : Nat) (a0 : ByteArray) : Option (ByteArray × ByteArray × Int) := c  (s0 k) (s1 k) a0 some
theorem is  {s0 : S0} {s1 : S1} : FnIs (env  s0 s1) 90 f90 := ⟨func90, rfl, rfl, rfl, by decide⟩
theorem envok  {s0 : S0} {s1 : S1}  : EnvOK (env  s0 s1).toEnv := by
  intro f c h
  simp only [env] at h
  simp at h
noncomputable abbrev E (k : Nat) : FEnv := env  (s0 k) (s1 k)
theorem hE (k : Nat) : EnvOK (E k).toEnv := envok 
theorem segs_ok : ∀ k, ∀ s ∈ (E k).segs, SegOK (E k) f90 s
  | 0 => by
    intro s hs
    simp only [E, env, List.mem_cons, List.not_mem_nil, or_false] at hs
    rcases hs with rfl | rfl
    · intro tvs blks res h; exfalso; simp only [sg0] at h; split at h <;> simp [s0] at h
    · intro tvs blks res h; exfalso; simp only [sg1] at h; split at h <;> simp [s1] at h
  | k + 1 => by
    intro s hs
    simp only [E, env, List.mem_cons, List.not_mem_nil, or_false] at hs
    rcases hs with rfl | rfl
    · refine seg_of_ev (E := E k) (hE k) ⟨is.rvs⟩ (segs_ok k) ?_
      intro tvs blks res h
      simp only [sg0] at h
      split at h
      · exact (s0_ev.trans s0c_bind).trans h
      · simp at h
    · refine seg_of_ev (E := E k) (hE k) ⟨is.rvs⟩ (segs_ok k) ?_
      intro tvs blks res h
      simp only [sg1] at h
      split at h
      · exact (s1_ev.trans s1c_bind).trans h
      · simp at h
theorem ok (k : Nat) : CtOK prog 90 (ct (f k)) := by
  refine ct_of_ev (E := E k) is (hE k) (segs_ok k) rfl ?_
  intro tvs blks res h
  simp only [ct] at h
  split at h
  · exact (ev.trans c_bind).trans h
  · simp at h
end transomref05_plain
end Go.Proofs.YtddlebbjaadbeaaGreatDoor.Aev
